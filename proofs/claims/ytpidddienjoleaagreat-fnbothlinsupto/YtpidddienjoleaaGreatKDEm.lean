/-
  Plain laws on rational numbers as what they are: sums, products and order of the exact ones; what a constraint tells of an assignment. No program is walked here.
-/
import Derived.Test.YtpidddienjoleaaGreatKDEl
set_option linter.unusedVariables false
set_option linter.unusedSimpArgs false
namespace Go.Mod
open Go.Eng
set_option maxRecDepth 100000
abbrev QQ:=_root_.Rat
def qv(r:Rat):QQ:=(r.N:QQ) / (r.D:QQ)
theorem M4{d:Int}(h:0<d):(0:QQ)<(d:QQ):=Rat.intCast_pos.2 h
theorem Mq{d:Int}(h:0<d):(d:QQ)≠0:=fun e=>by
 have:=M4 h
 rw[e] at this
 exact absurd this (by decide)
theorem Qb{n d m e:Int}(hd:0<d)(he:0<e):(n:QQ) / d=(m:QQ) / e↔n*e=m*d:=by
 have h1:=Mq hd
 have h2:=Mq he
 constructor
 ·intro h
  have h3:(n:QQ) / d*d*e=(m:QQ) / e*e*d:=by rw[h];grind
  rw[Rat.div_mul_cancel h1,Rat.div_mul_cancel h2] at h3
  rw[←Rat.intCast_mul,←Rat.intCast_mul] at h3
  exact Rat.intCast_inj.1 h3
 ·intro h
  have h3:(n:QQ)*e=(m:QQ)*d:=by rw[←Rat.intCast_mul,←Rat.intCast_mul,h]
  have h4:(n:QQ) / d*d=n:=Rat.div_mul_cancel h1
  have h5:(m:QQ) / e*e=m:=Rat.div_mul_cancel h2
  generalize (n:QQ) / d=x at *
  generalize (m:QQ) / e=y at *
  have h6:x*(d*e)=y*(d*e):=by grind
  have h7:x*(d*e) / (d*e)=y*(d*e) / (d*e):=by rw[h6]
  have h8:(d:QQ)*e≠0:=fun e0=>by
   have:=Rat.mul_pos (M4 hd) (M4 he)
   rw[e0] at this
   exact absurd this (by decide)
  rwa [Rat.mul_div_cancel h8,Rat.mul_div_cancel h8] at h7
theorem SY{n d m e:Int}(hd:0<d)(he:0<e):(n:QQ) / d<(m:QQ) / e↔n*e<m*d:=by
 have h1:=M4 hd
 have h2:=M4 he
 have h4:(n:QQ) / d*d=n:=Rat.div_mul_cancel (Mq hd)
 have h5:(m:QQ) / e*e=m:=Rat.div_mul_cancel (Mq he)
 have h6:(0:QQ)<d*e:=Rat.mul_pos h1 h2
 rw[←Rat.intCast_lt_intCast,Rat.intCast_mul,Rat.intCast_mul]
 generalize (n:QQ) / d=x at *
 generalize (m:QQ) / e=y at *
 rw[←Rat.mul_lt_mul_right h6,←h4,←h5]
 have e1:x*d*e=x*(d*e):=by grind
 have e2:y*e*d=y*(d*e):=by grind
 rw[e1,e2]
theorem PZ{a:Rat}(h:aS a=true):0<a.D:=by have:=(mR.1 h).2.1.1;omega
theorem Ih{a b:Rat}(ha:aS a=true)(hb:aS b=true):bD a b=true↔qv a<qv b:=by
 rw[dw ha hb,qv,qv,SY (PZ ha) (PZ hb)]
theorem P9{a b:Rat}(ha:aS a=true)(hb:aS b=true)(h:qv a=qv b):a=b:=by
 rcases Classical.em (a=b) with e|e
 ·exact e
 ·rcases qF ha hb e with h1|h1
  ·have:=(Ih ha hb).1 h1
   rw[h] at this
   exact absurd this (Rat.lt_irrefl)
  ·have:=(Ih hb ha).1 h1
   rw[h] at this
   exact absurd this (Rat.lt_irrefl)
theorem tn(n:Int):qv (whole n)=n:=by
 have:(n:QQ) / ((1:Int):QQ)*((1:Int):QQ)=n:=Rat.div_mul_cancel (Mq (by omega))
 rw[Rat.intCast_one,Rat.mul_one] at this
 exact this
theorem Bf{n d:Int}(hd:0<d)(h:(eh n d).2=true):qv (eh n d).1=(n:QQ) / d:=by
 rw[r5 (by omega)] at h⊢
 split at h
 ·rename_i hok
  rw[if_pos hok]
  have hg:0<(Int.gcd n d:Int):=by
   have:=Int.gcd_pos_of_ne_zero_right n (b:=d) (by omega)
   omega
  have h1:n.tdiv (Int.gcd n d)*(Int.gcd n d:Int)=n:=Int.tdiv_mul_cancel (Int.gcd_dvd_left ..)
  have h2:d.tdiv (Int.gcd n d)*(Int.gcd n d:Int)=d:=Int.tdiv_mul_cancel (Int.gcd_dvd_right ..)
  have hD:=PZ hok
  simp only at hD
  refine(Qb hD hd).2 ?_
  generalize n.tdiv (Int.gcd n d)=x at *
  generalize d.tdiv (Int.gcd n d)=y at *
  rw[←h1,←h2]
  grind
 ·cases h
theorem R8{n d m e:Int}(hd:0<d)(he:0<e):(n:QQ) / d+(m:QQ) / e=((n*e+m*d:Int):QQ) / ((d*e:Int):QQ):=by
 have h4:(n:QQ) / d*d=n:=Rat.div_mul_cancel (Mq hd)
 have h5:(m:QQ) / e*e=m:=Rat.div_mul_cancel (Mq he)
 have h8:=Mq (Int.mul_pos hd he)
 have h9:((n:QQ) / d+(m:QQ) / e)*((d*e:Int):QQ)=((n*e+m*d:Int):QQ):=by
  rw[Rat.intCast_mul,Rat.intCast_add,Rat.intCast_mul,Rat.intCast_mul]
  generalize (n:QQ) / d=x at *
  generalize (m:QQ) / e=y at *
  rw[←h4,←h5]
  grind
 rw[←h9,Rat.mul_div_cancel h8]
theorem RJ{n d m e:Int}(hd:0<d)(he:0<e):(n:QQ) / d*((m:QQ) / e)=((n*m:Int):QQ) / ((d*e:Int):QQ):=by
 have h4:(n:QQ) / d*d=n:=Rat.div_mul_cancel (Mq hd)
 have h5:(m:QQ) / e*e=m:=Rat.div_mul_cancel (Mq he)
 have h8:=Mq (Int.mul_pos hd he)
 have h9:((n:QQ) / d*((m:QQ) / e))*((d*e:Int):QQ)=((n*m:Int):QQ):=by
  rw[Rat.intCast_mul,Rat.intCast_mul]
  generalize (n:QQ) / d=x at *
  generalize (m:QQ) / e=y at *
  rw[←h4,←h5]
  grind
 rw[←h9,Rat.mul_div_cancel h8]
theorem Qe{a b:Rat}(h:(c7 a b).2=true):qv (c7 a b).1=qv a+qv b∧aS (c7 a b).1=true:=by
 refine⟨?_,Kg h⟩
 unfold c7 at h⊢
 split at h
 ·rename_i hok
  simp only[Bool.and_eq_true] at hok
  have hA:=PZ hok.1
  have hB:=PZ hok.2
  rw[if_pos (by simp[hok]),Bf (Int.mul_pos hA hB) h,qv,qv,R8 hA hB]
 ·cases h
theorem Qd{a b:Rat}(h:(dh a b).2=true):qv (dh a b).1=qv a*qv b∧aS (dh a b).1=true:=by
 unfold dh at h⊢
 split at h
 ·rename_i hok
  simp only[Bool.and_eq_true] at hok
  have hA:=PZ hok.1
  have hB:=PZ hok.2
  rw[if_pos (by simp[hok])]
  refine⟨?_,AW h⟩
  rw[Bf (Int.mul_pos hA hB) h,qv,qv,RJ hA hB]
 ·cases h
theorem Ic{s x:Rat}{c:Int}(h:(plus s c x).2=true):qv (plus s c x).1=qv s+c*qv x∧aS (plus s c x).1=true:=by
 unfold plus at h⊢
 split at h
 ·rename_i hm
  rw[if_pos hm]
  have h1:=Qd hm
  have h2:=Qe h
  rw[h1.1,tn] at h2
  exact h2
 ·cases h
def dot:List Int→List Rat→QQ
 | c::cs,x::xs=>c*qv x+dot cs xs
 | _,_=>0
theorem yk:∀{cs:List Int}{xs:List Rat}{s r:Rat},eu cs xs s=some r→aS s=true→qv r=qv s+dot cs xs∧aS r=true
 | [],xs,s,r,h,hs=>by
   rw[nq] at h
   cases h
   have e:dot [] xs=0:=by unfold dot;rfl
   exact⟨by rw[e];grind,hs⟩
 | c::cs,[],s,r,h,hs=>by
   have e0:eu (c::cs) [] s=some s:=by unfold eu;rfl
   rw[e0] at h
   cases h
   have e:dot (c::cs) []=0:=by unfold dot;rfl
   exact⟨by rw[e];grind,hs⟩
 | c::cs,x::xs,s,r,h,hs=>by
   rw[eu] at h
   split at h
   ·rename_i hp
    have h1:=Ic hp
    have h2:=yk h h1.2
    exact⟨by rw[h2.1,h1.1,dot];grind,h2.2⟩
   ·cases h
theorem OD{a:Rat}{b:Int}{st:Bool}(ha:aS a=true)(hb:-1000000000≤b∧b≤1000000000):below a b st=true↔(if st then qv a<b else qv a≤b):=by
 have hw:=kJ hb.1 hb.2
 unfold below
 cases st with
 | true=>simp only[if_true];rw[Ih ha hw,tn]
 | false=>
   simp only[Bool.false_eq_true,if_false,Bool.not_eq_true']
   have:=Ih hw ha
   rw[tn] at this
   rw[←Bool.not_eq_true,this,Rat.not_lt]
def m7(l:eQ)(aw:List Rat):Prop:=if l.strict then dot l.an aw<l.bound else dot l.an aw≤l.bound
theorem FR{l:eQ}(h:bR l=true):-1000000≤l.bound∧l.bound≤1000000:=by
 simp only[bR,fE,within,Bool.and_eq_true,decide_eq_true_eq] at h
 exact h.2.2
theorem Fm{l:eQ}{aw:List Rat}(h:lQ l aw=some true):m7 l aw:=by
 unfold lQ at h
 split at h
 ·rename_i hok
  simp only[Bool.and_eq_true] at hok
  cases hs:eu l.an aw (whole 0) with
  | none=>rw[hs] at h;cases h
  | some r=>
    rw[hs] at h
    have h1:=yk hs (kJ (by omega) (by omega))
    have hb:=FR hok.1
    have h2:=(OD (st:=l.strict) h1.2 ⟨by omega,by omega⟩).1 (Option.some.inj h)
    rw[h1.1,tn] at h2
    unfold m7
    have e:((0:Int):QQ)+dot l.an aw=dot l.an aw:=by grind
    rwa [e] at h2
 ·cases h
theorem CZ{list:List eQ}{aw:List Rat}(h:fR list aw=true):∀l∈list,m7 l aw:=fun l hl=>by
 simp only[fR,Bool.and_eq_true,List.all_eq_true,decide_eq_true_eq] at h
 exact Fm (h.2.2 l hl)
end Go.Mod
namespace Go.Mod
open Go.Eng
set_option maxRecDepth 100000
theorem zm{α:Type}{nums:List Term}{f:Nat→α}:∀{eqs:List gk}{out:List Nat},out.length=nums.length→(∀i k,i<nums.length→k<nums.length→cl out i=cl out k→f i=f k) →
 (∀e∈eqs,e.A∈nums→e.B∈nums→f (al nums e.A)=f (al nums e.B))→∀i k,i<nums.length→k<nums.length→cl (eqs.foldl (b7 nums) out) i=cl (eqs.foldl (b7 nums) out) k→f i=f k
 | [],_,_,h,_,i,k,hi,hk,he=>h i k hi hk he
 | e::es,out,hl,h,hE,i,k,hi,hk,he=>by
   rw[List.foldl_cons] at he
   refine zm (eqs:=es) (out:=b7 nums out e) (by unfold b7;split<;>simp[hl]) ?_ (fun x hx=>hE x (List.mem_cons_of_mem _ hx)) i k hi hk he
   intro i k hi hk hik
   unfold b7 at hik
   rcases Classical.em (aF nums e.A<0∨aF nums e.B<0) with hn|hn
   ·rw[if_pos hn] at hik
    exact h i k hi hk hik
   ·rw[if_neg hn] at hik
    have hA:e.A∈nums:=bl.1 (by omega)
    have hB:e.B∈nums:=bl.1 (by omega)
    have pA:=aU hA
    have pB:=aU hB
    have hab:=hE e (by simp) hA hB
    rw[rD (by omega),rD (by omega)] at hik
    rcases Classical.em (cl out i=cl out (al nums e.A)) with h1|h1
    ·rcases Classical.em (cl out k=cl out (al nums e.A)) with h2|h2
     ·exact h i k hi hk (h1.trans h2.symm)
     ·rw[if_pos h1,if_neg h2] at hik
      rw[h i _ hi pA h1,hab,h _ k pB hk hik]
    ·rcases Classical.em (cl out k=cl out (al nums e.A)) with h2|h2
     ·rw[if_neg h1,if_pos h2] at hik
      rw[h i _ hi pB hik,←hab,h _ k pA hk h2.symm]
     ·rw[if_neg h1,if_neg h2] at hik
      exact h i k hi hk hik
theorem D9{α:Type}{nums:List Term}{lits:List aE}{f:Nat→α}(hE:∀e∈aI lits,e.A∈nums→e.B∈nums→f (al nums e.A)=f (al nums e.B)){i k:Nat}(hi:i<nums.length)(hk:k<nums.length)(h:linked nums lits i k=true):f i=f k:=by
 refine zm (out:=List.range nums.length) (by simp) (fun i k hi hk he=>?_) hE i k hi hk (of_decide_eq_true h)
 rw[fh (by simpa using hi),fh (by simpa using hk)] at he
 simp only[List.getElem_range] at he
 rw[he]
theorem BR:∀(cs:List Int)(aw:List Rat)(i:Nat)(v:Int),cs.length=aw.length→i<cs.length→dot (eH cs i v) aw=dot cs aw+v*qv (aw.getD i (whole 0))
 | [],_,i,_,_,h=>by simp at h
 | c::cs,[],_,_,h,_=>by simp at h
 | c::cs,x::xs,0,v,h,hi=>by
   simp only[eH,Int.natCast_zero,if_true,dot,List.getD_cons_zero,Rat.intCast_add]
   grind
 | c::cs,x::xs,i+1,v,h,hi=>by
   have h1:¬ ((i+1:Nat):Int)=0:=by omega
   have h2:((i+1:Nat):Int)-1=i:=by omega
   simp only[eH,if_neg h1,h2,dot,List.getD_cons_succ]
   rw[BR cs xs i v (by simpa using h) (by simpa using hi)]
   grind
def qp(nums:List Term)(aw:List Rat):List Term→List Int→QQ
 | t::ts,n::ns=>n*qv (aw.getD (al nums t) (whole 0))+qp nums aw ts ns
 | _,_=>0
theorem Bj{nums:List Term}{aw:List Rat}:∀(ts:List Term)(ns cs:List Int),(∀t∈ts,t∈nums)→nums.length≤cs.length→cs.length=aw.length→dot (df nums ts ns cs) aw=dot cs aw+qp nums aw ts ns
 | [],ns,cs,_,_,_=>by
   have e1:df nums [] ns cs=cs:=by unfold df;rfl
   have e2:qp nums aw [] ns=0:=by unfold qp;rfl
   rw[e1,e2];grind
 | t::ts,[],cs,_,_,_=>by
   have e1:df nums (t::ts) [] cs=cs:=by unfold df;rfl
   have e2:qp nums aw (t::ts) []=0:=by unfold qp;rfl
   rw[e1,e2];grind
 | t::ts,n::ns,cs,ht,hn,hc=>by
   have hm:=ht t (by simp)
   have hp:=aU hm
   rw[df,bo hm,Bj ts ns _ (fun x hx=>ht x (by simp[hx])) (by rw[pU];exact hn) (by rw[pU];exact hc),BR cs aw _ n hc (by omega),qp]
   grind
theorem NH:∀(aw:List Rat),dot [0,0,0,0] aw=0
 | []=>by unfold dot;rfl
 | [a]=>by simp only[dot];grind
 | [a,b]=>by simp only[dot];grind
 | [a,b,c]=>by simp only[dot];grind
 | a::b::c::d::r=>by simp only[dot];grind
theorem lK{nums ts:List Term}{ns:List Int}{b:Int}{st:Bool}{aw:List Rat}(h4:nums.length≤4)(hv:aw.length=4)(ht:∀t∈ts,t∈nums):m7 (ez nums ts ns b st) aw↔(if st then qp nums aw ts ns<b else qp nums aw ts ns≤b):=by
 unfold m7 ez
 simp only
 rw[Bj ts ns [0,0,0,0] ht (by simpa using h4) (by simp[hv]),NH]
 have e:(0:QQ)+qp nums aw ts ns=qp nums aw ts ns:=by grind
 rw[e]
def tZ(aw:List Rat)(i:Nat):QQ:=qv (aw.getD i (whole 0))
theorem zJ{nums:List Term}{aw:List Rat}{a b:Term}{m n:Int}:qp nums aw [a,b] [m,n]=m*tZ aw (al nums a)+n*tZ aw (al nums b):=by
 have e:qp nums aw [] []=0:=by unfold qp;rfl
 rw[qp,qp,e,tZ,tZ]
 grind
theorem ID{list:List eQ}(h:(a7 list).code=0):fR list (a7 list).aw=true:=by
 have hend:∀s0 s1 s2 s3 rows,(fC list s0 s1 s2 s3 rows).code=0→fR list (fC list s0 s1 s2 s3 rows).aw=true:=fun s0 s1 s2 s3 rows h=>by
  unfold fC at h⊢
  split at h
  ·split at h<;>simp at h
  ·split at h
   ·simp at h
   ·split at h
    ·rename_i hf
     rw[if_pos hf]
     exact hf
    ·simp at h
 unfold a7 at h⊢
 split at h
 ·rename_i hs
  rw[if_pos hs]
  split at h
  ·simp at h
  ·split at h
   ·simp at h
   ·split at h
    ·simp at h
    ·split at h
     ·simp at h
     ·exact hend _ _ _ _ _ h
 ·simp at h
theorem s5{parts:List Term}:∀(f:Nat)(c:List Nat)(steps:List Step),c.sum≤f→c.length=parts.length→dM parts (fc parts f c steps).1=none
 | f,c,steps,hs,hc=>by
   cases hn:dM parts c with
   | none=>rw[tC hn];exact hn
   | some p=>
     obtain⟨f',rfl,h1,h2⟩:=tE (steps:=steps) hs hc hn
     rw[h1]
     exact s5 f' _ _ h2 (by rw[dy];exact hc)
theorem DZ(parts:List Term)(eqs:List gk):dM parts (closed parts eqs).1=none:=
 s5 _ _ _ (Nat.le_refl _) (by rw[given,mb,List.length_range])
theorem qV{parts:List Term}{c:List Nat}(h:dM parts c=none){i k:Nat}(h1:i<k)(h2:k<parts.length)(ha:alike parts c i k=true):cl c i=cl c k:=by
 have:=List.find?_eq_none.1 h (i,k) (qE.2 ⟨h1,Nat.zero_le _,h2⟩)
 simp only[kq,ha,Bool.and_true,decide_eq_true_eq,ne_eq,Decidable.not_not] at this
 exact this
structure jB(s:bA)(lits:List aE):Prop where
 uW:c8 s lits
 sorted:∀t∈ai lits,(bp s t).isSome=true
 zW:(a7 (bH (numsOf s lits) lits)).code=0
 same:bj (numsOf s lits).length (dj true (ai lits) (numsOf s lits) (closed (ai lits) (aI lits)).1 lits)=none
 told:bj (numsOf s lits).length (dj false (ai lits) (numsOf s lits) (closed (ai lits) (aI lits)).1 lits)=none
section
variable{s:bA}{lits:List aE}(h:jB s lits)
abbrev nU(s:bA)(lits:List aE):List Rat:=(a7 (bH (numsOf s lits) lits)).aw
abbrev uq(lits:List aE):List Nat:=(closed (ai lits) (aI lits)).1
include h
theorem jB.v4:(nU s lits).length=4:=(zc h.zW).1
theorem jB.Sf:∀x∈nU s lits,aS x=true:=(zc h.zW).2
theorem jB.holds:∀l∈lits,∀x∈dq (numsOf s lits) l,m7 x (nU s lits):=fun l hl x hx=>
 CZ (ID h.zW) x (List.mem_flatMap.2 ⟨l,hl,hx⟩)
theorem jB.RN{e:gk}(he:e∈aI lits)(hA:e.A∈numsOf s lits)(hB:e.B∈numsOf s lits):tZ (nU s lits) (al (numsOf s lits) e.A)=tZ (nU s lits) (al (numsOf s lits) e.B):=by
 obtain⟨l,hl,h1,h2,rfl⟩:=JC.1 he
 have hll:dq (numsOf s lits) l=[ez (numsOf s lits) [l.atom.A,l.atom.B] [1,-1] 0 false,ez (numsOf s lits) [l.atom.A,l.atom.B] [-1,1] 0 false]:=by
  unfold dq
  rw[if_neg (by omega),if_pos ⟨h2,bl.2 hA⟩]
 have ht:∀t∈[l.atom.A,l.atom.B],t∈numsOf s lits:=by simp[hA,hB]
 have k1:=(lK h.uW.n4 h.v4 ht).1 (h.holds l hl (ez (numsOf s lits) [l.atom.A,l.atom.B] [1,-1] 0 false) (by rw[hll];simp))
 have k2:=(lK h.uW.n4 h.v4 ht).1 (h.holds l hl (ez (numsOf s lits) [l.atom.A,l.atom.B] [-1,1] 0 false) (by rw[hll];simp))
 rw[zJ] at k1 k2
 simp only[Bool.false_eq_true,if_false] at k1 k2
 show tZ (nU s lits) (al (numsOf s lits) l.atom.A)=tZ (nU s lits) (al (numsOf s lits) l.atom.B)
 generalize tZ (nU s lits) (al (numsOf s lits) l.atom.A)=x at *
 generalize tZ (nU s lits) (al (numsOf s lits) l.atom.B)=y at *
 grind
theorem jB.Mo{i k:Nat}(hi:i<(numsOf s lits).length)(hk:k<(numsOf s lits).length)(hs:cu (numsOf s lits) lits i k=true):tZ (nU s lits) i<tZ (nU s lits) k:=by
 obtain⟨l,hl,h1⟩:=List.any_eq_true.1 hs
 simp only[Bool.and_eq_true,Bool.not_eq_true',decide_eq_true_eq] at h1
 rw[dN hi,dN hk] at h1
 have hmi:=List.getElem_mem hi
 have hmk:=List.getElem_mem hk
 have pi:al (numsOf s lits) (numsOf s lits)[i]=i:=by rw[al,gG h.uW.m8 hi];rfl
 have pk:al (numsOf s lits) (numsOf s lits)[k]=k:=by rw[al,gG h.uW.m8 hk];rfl
 have hkd:l.atom.kind=2:=by rw[h1.2];unfold ct;split<;>rfl
 have hll:dq (numsOf s lits) l=[ez (numsOf s lits) l.atom.nums l.atom.times l.atom.bound l.atom.strict]:=by
  unfold dq
  rw[if_pos hkd,h1.1]
  rfl
 have k0:=h.holds l hl _ (by rw[hll];exact List.mem_singleton.2 rfl)
 rw[h1.2] at k0
 generalize (numsOf s lits)[i]=a at *
 generalize (numsOf s lits)[k]=b at *
 unfold ct at k0
 split at k0
 ·have k1:=(lK h.uW.n4 h.v4 (by simp[hmi,hmk])).1 k0
  rw[zJ,pi,pk] at k1
  simp only[if_true] at k1
  generalize tZ (nU s lits) i=x at *
  generalize tZ (nU s lits) k=y at *
  grind
 ·have k1:=(lK h.uW.n4 h.v4 (by simp[hmi,hmk])).1 k0
  rw[zJ,pi,pk] at k1
  simp only[if_true] at k1
  generalize tZ (nU s lits) i=x at *
  generalize tZ (nU s lits) k=y at *
  grind
theorem jB.Kf{i k:Nat}(hi:i<(numsOf s lits).length)(hk:k<(numsOf s lits).length)(hl:linked (numsOf s lits) lits i k=true):tZ (nU s lits) i=tZ (nU s lits) k:=
 D9 (f:=tZ (nU s lits)) (fun _ he hA hB=>h.RN he hA hB) hi hk hl
theorem jB.Np{i k:Nat}(hi:i<(numsOf s lits).length)(hk:k<(numsOf s lits).length)(hl:linked (numsOf s lits) lits i k=true):cl (uq lits) (al (ai lits) ((numsOf s lits).getD i ao))=cl (uq lits) (al (ai lits) ((numsOf s lits).getD k ao)):=by
 refine D9 (f:=fun i=>cl (uq lits) (al (ai lits) ((numsOf s lits).getD i ao))) (fun e he hA hB=>?_) hi hk hl
 have:=Hr (parts:=ai lits) h.uW.Ig he
 rw[dN (aU hA),dN (aU hB)]
 have g:∀{t:Term}(ht:t∈numsOf s lits),(numsOf s lits)[al (numsOf s lits) t]'(aU ht)=t:=fun ht=>(List.getElem?_eq_some_iff.1 (eX ht)).2
 rw[g hA,g hB]
 exact of_decide_eq_true this
theorem jB.N6{i k:Nat}(hi:i<(numsOf s lits).length)(hk:k<(numsOf s lits).length)(hs:cl (uq lits) (al (ai lits) ((numsOf s lits).getD i ao))=cl (uq lits) (al (ai lits) ((numsOf s lits).getD k ao))):tZ (nU s lits) i=tZ (nU s lits) k:=by
 have key:∀i k,i<k→k<(numsOf s lits).length→cl (uq lits) (al (ai lits) ((numsOf s lits).getD i ao))=cl (uq lits) (al (ai lits) ((numsOf s lits).getD k ao))→tZ (nU s lits) i=tZ (nU s lits) k:=fun i k h1 h2 hs=>by
  have h3:=oZ h.same h1 h2
  have hsm:eM (ai lits) (uq lits) ((numsOf s lits).getD i ao) ((numsOf s lits).getD k ao)=true:=decide_eq_true hs
  simp only[dj,hsm,if_true,Bool.and_true,Bool.not_eq_false'] at h3
  exact h.Kf (by omega) h2 h3
 rcases Nat.lt_trichotomy i k with h1|rfl|h1
 ·exact key i k h1 hk hs
 ·rfl
 ·exact(key k i h1 hi hs.symm).symm
theorem jB.OA{i k:Nat}(hi:i<(numsOf s lits).length)(hk:k<(numsOf s lits).length)(hs:tZ (nU s lits) i=tZ (nU s lits) k):cl (uq lits) (al (ai lits) ((numsOf s lits).getD i ao))=cl (uq lits) (al (ai lits) ((numsOf s lits).getD k ao)):=by
 have key:∀i k,i<k→k<(numsOf s lits).length→tZ (nU s lits) i=tZ (nU s lits) k→cl (uq lits) (al (ai lits) ((numsOf s lits).getD i ao))=cl (uq lits) (al (ai lits) ((numsOf s lits).getD k ao)):=fun i k h1 h2 hs=>by
  have h3:=oZ h.told h1 h2
  simp only[dj,Bool.false_eq_true,if_false] at h3
  cases hl:linked (numsOf s lits) lits i k with
  | true=>exact h.Np (by omega) h2 hl
  | false=>
    rw[hl] at h3
    simp only[Bool.not_false,Bool.true_and] at h3
    cases ha:cu (numsOf s lits) lits i k with
    | true=>
      have:=h.Mo (by omega) h2 ha
      rw[hs] at this
      exact absurd this Rat.lt_irrefl
    | false=>
      rw[ha] at h3
      simp only[Bool.not_false,Bool.true_and,Bool.not_eq_false'] at h3
      have:=h.Mo h2 (by omega) h3
      rw[hs] at this
      exact absurd this Rat.lt_irrefl
 rcases Nat.lt_trichotomy i k with h1|rfl|h1
 ·exact key i k h1 hk hs
 ·rfl
 ·exact(key k i h1 hi hs.symm).symm
end
end Go.Mod
namespace Go.Mod
open Go.Eng
set_option maxRecDepth 100000
theorem nN{s:bA}:∀{ks:List Term}{as:List Int},cq s ks as=true→as.length=ks.length→∀(j:Nat)(h1:j<ks.length)(h2:j<as.length),bB s ks[j]=some as[j]
 | [],_,_,_,j,h1,_=>by simp at h1
 | k::ks,[],_,h,_,_,_=>by simp at h
 | k::ks,a::as,h,hl,0,_,_=>by
   simp only[cq,Bool.and_eq_true,decide_eq_true_eq] at h
   exact h.1
 | k::ks,a::as,h,hl,j+1,h1,h2=>by
   simp only[cq,Bool.and_eq_true,decide_eq_true_eq] at h
   simpa using nN h.2 (by simpa using hl) j (by simpa using h1) (by simpa using h2)
theorem zk{s:bA}{t:Term}{r:Int}(h:bB s t=some r):∃x,symbol s t.name=some x∧x.args.length=t.kids.length∧cq s t.kids x.args=true∧x.sort=r:=by
 obtain⟨n,ks⟩:=t
 rw[bB] at h
 split at h
 ·cases h
 ·rename_i x hx
  split at h
  ·rename_i hc
   simp only[Bool.and_eq_true,decide_eq_true_eq] at hc
   exact⟨x,hx,hc.1,hc.2,Option.some.inj h⟩
  ·cases h
theorem jh{s:bA}{t:Term}(h:(bp s t).isSome=true):bp s t=bB s t:=by
 unfold bp at h⊢
 split
 ·rfl
 ·rename_i hc
  rw[if_neg hc] at h
  cases h
theorem HZ{rs:List Row}{t r:Row}(h:r∈putRow rs t):r∈rs∨r=t:=by
 rw[kR] at h
 split at h
 ·exact .inl h
 ·rcases List.mem_append.1 h with h|h
  ·exact .inl (List.mem_of_mem_take h)
  ·rcases List.mem_cons.1 h with h|h
   ·exact .inr h
   ·exact .inl (List.mem_of_mem_drop h)
theorem D8{rs:List Row}{t r:Row}(h:r∈rs):r∈putRow rs t:=by
 rw[kR]
 split
 ·exact h
 ·rw[←List.take_append_drop (cut rs t) rs] at h
  rcases List.mem_append.1 h with h|h
  ·exact List.mem_append_left _ h
  ·exact List.mem_append_right _ (List.mem_cons_of_mem _ h)
theorem Hw{rs:List Row}{t:Row}(hr:∀r∈rs,bt r.args=true)(ht:bt t.args=true):∃r∈putRow rs t,r.name=t.name∧r.args=t.args:=by
 rw[kR]
 split
 ·rename_i hf
  unfold found at hf
  split at hf
  ·rename_i r hx
   have hm:=List.mem_of_getElem? hx
   exact⟨r,hm,(l8 (hr r hm) ht).1 (of_decide_eq_true hf)⟩
  ·cases hf
 ·exact⟨t,by simp,rfl,rfl⟩
theorem ED{g:Term→Row}(hg:∀t,bt (g t).args=true):∀(ts:List Term)(rs:List Row)(done:List Term),(∀r∈rs,∃u∈done,r=g u)→(∀t∈done,∃r∈rs,r.name=(g t).name∧r.args=(g t).args) →
 (∀r∈ts.foldl (fun rows t=>putRow rows (g t)) rs,∃u∈done++ts,r=g u)∧(∀t∈done++ts,∃r∈ts.foldl (fun rows t=>putRow rows (g t)) rs,r.name=(g t).name∧r.args=(g t).args)
 | [],rs,done,h1,h2=>by simpa using ⟨h1,h2⟩
 | t::ts,rs,done,h1,h2=>by
   have hok:∀r∈rs,bt r.args=true:=fun r hr=>by
    obtain⟨u,_,rfl⟩:=h1 r hr
    exact hg u
   have:=ED hg ts (putRow rs (g t)) (done++[t]) (fun r hr=>by
    rcases HZ hr with hr|hr
    ·obtain⟨u,hu,e⟩:=h1 r hr
     exact⟨u,List.mem_append_left _ hu,e⟩
    ·exact⟨t,by simp,hr⟩) (fun u hu=>by
    rcases List.mem_append.1 hu with hu|hu
    ·obtain⟨r,hr,e⟩:=h2 u hu
     exact⟨r,D8 hr,e⟩
    ·rw[List.mem_singleton.1 hu]
     exact Hw hok (hg t))
   rw[List.append_assoc] at this
   exact this
theorem Kv{rows:List Row}{n:gR}{as:List Rat}{v:Rat}(h1:∃r∈rows,r.name=n∧r.args=as)(h2:∀r∈rows,r.name=n→r.args=as→r.val=v):lookup rows n as=v:=by
 unfold lookup
 obtain⟨r,hr,e⟩:=h1
 cases hf:rows.find? (fun r=>decide (r.name=n∧r.args=as)) with
 | none=>
   have:=List.find?_eq_none.1 hf r hr
   exact absurd (decide_eq_true e) this
 | some x=>
   have hx:=List.find?_some hf
   have:=of_decide_eq_true hx
   exact h2 x (List.mem_of_find?_eq_some hf) this.1 this.2
section
variable{s:bA}{lits:List aE}(h:jB s lits)
abbrev IJ(s:bA)(lits:List aE)(t:Term):Rat:=gv (ai lits) (numsOf s lits) (uq lits) (nU s lits) t
include h
theorem jB.sort{t:Term}(ht:t∈ai lits):∃x,symbol s t.name=some x∧x.args.length=t.kids.length∧cq s t.kids x.args=true∧bp s t=some x.sort:=by
 have h1:=h.sorted t ht
 have h2:=jh h1
 obtain⟨r,hr⟩:=Option.isSome_iff_exists.1 h1
 obtain⟨x,x1,x2,x3,x4⟩:=zk (h2▸hr)
 exact⟨x,x1,x2,x3,by rw[hr,x4]⟩
theorem jB.xo{t:Term}(ht:t∈ai lits):t∈numsOf s lits↔bp s t=some 1:=by
 have _:=h.zW
 rw[←F8,List.mem_filter]
 simp[ht,aY]
theorem jB.M3{t u:Term}(ht:t∈ai lits)(hu:u∈ai lits)(hn:t.name=u.name):t∈numsOf s lits↔u∈numsOf s lits:=by
 obtain⟨x,x1,_,_,x4⟩:=h.sort ht
 obtain⟨y,y1,_,_,y4⟩:=h.sort hu
 rw[hn,y1] at x1
 obtain rfl:=Option.some.inj x1
 rw[h.xo ht,h.xo hu,x4,y4]
theorem jB.MG{t u:Term}(ht:t∈ai lits)(hu:u∈ai lits)(hn:t.name=u.name)(j:Nat)(h1:j<t.kids.length)(h2:j<u.kids.length):t.kids[j]∈numsOf s lits↔u.kids[j]∈numsOf s lits:=by
 obtain⟨x,x1,x2,x3,_⟩:=h.sort ht
 obtain⟨y,y1,y2,y3,_⟩:=h.sort hu
 rw[hn,y1] at x1
 obtain rfl:=Option.some.inj x1
 have kt:=h.uW.kids t ht _ (List.getElem_mem h1)
 have ku:=h.uW.kids u hu _ (List.getElem_mem h2)
 have st:=nN x3 x2 j h1 (by omega)
 have su:=nN y3 y2 j h2 (by omega)
 rw[h.xo kt,h.xo ku,jh (h.sorted _ kt),jh (h.sorted _ ku),st,su]
theorem jB.Ct{t:Term}(ht:t∈numsOf s lits):(numsOf s lits).getD (al (numsOf s lits) t) ao=t:=by
 have _:=h.zW
 rw[dN (aU ht)]
 exact(List.getElem?_eq_some_iff.1 (eX ht)).2
theorem jB.pM{t:Term}(ht:t∈numsOf s lits):IJ s lits t=(nU s lits).getD (al (numsOf s lits) t) (whole 0):=by
 have _:=h.zW
 have:=bl.2 ht
 rw[IJ,gv,if_neg (by omega)]
theorem jB.tr{t:Term}(ht:t∉numsOf s lits):IJ s lits t=whole (cl (uq lits) (al (ai lits) t)):=by
 have _:=h.zW
 have:aF (numsOf s lits) t<0:=by
  rcases Int.lt_or_le (aF (numsOf s lits) t) 0 with h1|h1
  ·exact h1
  ·exact absurd (bl.1 h1) ht
 rw[IJ,gv,if_pos this]
theorem jB.Iz(i:Nat):aS ((nU s lits).getD i (whole 0))=true:=by
 rcases Nat.lt_or_ge i (nU s lits).length with h1|h1
 ·rw[dN h1]
  exact h.Sf _ (List.getElem_mem h1)
 ·rw[List.getD_eq_getElem?_getD,List.getElem?_eq_none h1]
  exact kJ (by omega) (by omega)
theorem jB.one{t u:Term}(ht:t∈ai lits)(hu:u∈ai lits)(hk:t∈numsOf s lits↔u∈numsOf s lits)(hv:IJ s lits t=IJ s lits u):cl (uq lits) (al (ai lits) t)=cl (uq lits) (al (ai lits) u):=by
 rcases Classical.em (t∈numsOf s lits) with hn|hn
 ·have hn':=hk.1 hn
  rw[h.pM hn,h.pM hn'] at hv
  have:=h.OA (aU hn) (aU hn') (by rw[tZ,tZ,hv])
  rwa [h.Ct hn,h.Ct hn'] at this
 ·have hn':u∉numsOf s lits:=fun x=>hn (hk.2 x)
  rw[h.tr hn,h.tr hn'] at hv
  have:=congrArg Rat.N hv
  simp only[B9] at this
  omega
theorem jB.val{t u:Term}(hk:t∈numsOf s lits↔u∈numsOf s lits)(hc:cl (uq lits) (al (ai lits) t)=cl (uq lits) (al (ai lits) u)):IJ s lits t=IJ s lits u:=by
 rcases Classical.em (t∈numsOf s lits) with hn|hn
 ·have hn':=hk.1 hn
  have:=h.N6 (aU hn) (aU hn') (by rwa [h.Ct hn,h.Ct hn'])
  rw[h.pM hn,h.pM hn']
  exact P9 (h.Iz _) (h.Iz _) this
 ·have hn':u∉numsOf s lits:=fun x=>hn (hk.2 x)
  rw[h.tr hn,h.tr hn',hc]
omit h in
theorem uw{parts:List Term}{c:List Nat}:∀{xs ys:List Term},xs.length=ys.length→(∀(j:Nat)(h1:j<xs.length)(h2:j<ys.length),cl c (al parts xs[j])=cl c (al parts ys[j]))→gm parts c xs ys=true
 | [],[],_,_=>rfl
 | [],_::_,h,_=>by simp at h
 | _::_,[],h,_=>by simp at h
 | x::xs,y::ys,hl,hx=>by
   rw[gm,Bool.and_eq_true]
   exact⟨decide_eq_true (hx 0 (by simp) (by simp)),uw (by simpa using hl) fun j h1 h2=>hx (j+1) (by simpa using h1) (by simpa using h2)⟩
theorem jB.SO{t u:Term}(ht:t∈ai lits)(hu:u∈ai lits)(hn:t.name=u.name)(hk:t.kids.map (IJ s lits)=u.kids.map (IJ s lits)):IJ s lits t=IJ s lits u:=by
 have hl:t.kids.length=u.kids.length:=by simpa using congrArg List.length hk
 have hks:∀(j:Nat)(h1:j<t.kids.length)(h2:j<u.kids.length),cl (uq lits) (al (ai lits) t.kids[j])=cl (uq lits) (al (ai lits) u.kids[j]):=fun j h1 h2=>by
  refine h.one (h.uW.kids t ht _ (List.getElem_mem h1)) (h.uW.kids u hu _ (List.getElem_mem h2)) (h.MG ht hu hn j h1 h2) ?_
  have:=congrArg (fun l:List Rat=>l[j]?) hk
  simpa[h1,h2] using this
 refine h.val (h.M3 ht hu hn) ?_
 rcases Classical.em (t.kids=[]) with h0|h0
 ·have h0':u.kids=[]:=List.eq_nil_of_length_eq_zero (by rw[←hl,h0];rfl)
  have e:t=u:=by
   obtain⟨a,b⟩:=t
   obtain⟨c,d⟩:=u
   simp only[Term.name,Term.kids] at hn h0 h0'
   rw[hn,h0,h0']
  rw[e]
 ·have hpos:0<t.kids.length:=List.length_pos_iff.2 h0
  have pt:=aU ht
  have pu:=aU hu
  have gt:(ai lits).getD (al (ai lits) t) ao=t:=by rw[dN pt];exact(List.getElem?_eq_some_iff.1 (eX ht)).2
  have gu:(ai lits).getD (al (ai lits) u) ao=u:=by rw[dN pu];exact(List.getElem?_eq_some_iff.1 (eX hu)).2
  have hd:=DZ (ai lits) (aI lits)
  rcases Nat.lt_trichotomy (al (ai lits) t) (al (ai lits) u) with h1|h1|h1
  ·refine qV hd h1 pu ?_
   rw[alike,gt,gu,Bool.and_eq_true,Bool.and_eq_true]
   exact⟨decide_eq_true hpos,decide_eq_true hn,uw hl hks⟩
  ·rw[h1]
  ·refine(qV hd h1 pt ?_).symm
   rw[alike,gt,gu,Bool.and_eq_true,Bool.and_eq_true]
   exact⟨decide_eq_true (by omega),decide_eq_true hn.symm,uw hl.symm fun j a b=>(hks j b a).symm⟩
end
end Go.Mod
namespace Go.Mod
open Go.Eng
set_option maxRecDepth 100000
section
variable{s:bA}{lits:List aE}(h:jB s lits)
include h
theorem jB.bound:∀x∈uq lits,x≤1000:=h.uW.Iw
theorem jB.value:∀(t:Term),t∈ai lits→value ⟨cV (ai lits) (numsOf s lits) (uq lits) (nU s lits)⟩ t=IJ s lits t:=
 Term.ind fun n ks ih ht=>by
  have hks:values ⟨cV (ai lits) (numsOf s lits) (uq lits) (nU s lits)⟩ ks=ks.map (IJ s lits):=by
   rw[iX]
   exact List.map_congr_left fun k hk=>ih k hk (h.uW.kids _ ht k hk)
  rw[Go.Mod.value,hks]
  obtain⟨i1,i2⟩:=ED (g:=dY (ai lits) (numsOf s lits) (uq lits) (nU s lits)) (fun t=>yP h.bound h.Sf) (ai lits) [] [] (by simp) (by simp)
  simp only[List.nil_append] at i1 i2
  refine Kv ?_ ?_
  ·obtain⟨r,hr,e1,e2⟩:=i2 _ ht
   exact⟨r,hr,e1,e2⟩
  ·intro r hr e1 e2
   obtain⟨u,hu,rfl⟩:=i1 r hr
   exact h.SO hu ht e1 e2
end
mutual
theorem vt{s:bA}:∀(t:Term)(l:List Term),(bB s t).isSome=true→(∀u∈l,(bB s u).isSome=true)→∀u∈a8 l t,(bB s u).isSome=true
 | .mk n ks,l,ht,hl,u,hu=>by
   have h1:=ix ks l (fun k hk=>by
    obtain⟨r,hr⟩:=Option.isSome_iff_exists.1 ht
    obtain⟨x,_,x2,x3,_⟩:=zk hr
    obtain⟨j,hj,rfl⟩:=List.mem_iff_getElem.1 hk
    have x2':x.args.length=ks.length:=x2
    rw[nN (ks:=ks) (as:=x.args) x3 x2' j hj (by omega)]
    rfl) hl
   rw[a8] at hu
   split at hu
   ·simp only[List.mem_append,List.mem_cons,List.not_mem_nil,or_false] at hu
    rcases hu with hu|rfl
    ·exact h1 u hu
    ·exact ht
   ·exact h1 u hu
theorem ix{s:bA}:∀(ts l:List Term),(∀t∈ts,(bB s t).isSome=true)→(∀u∈l,(bB s u).isSome=true)→∀u∈aq l ts,(bB s u).isSome=true
 | [],l,_,hl,u,hu=>hl u (by simpa[aq] using hu)
 | t::ts,l,ht,hl,u,hu=>by
   rw[aq] at hu
   exact ix ts _ (fun x hx=>ht x (by simp[hx])) (vt t l (ht t (by simp)) hl) u hu
end
theorem DY{s:bA}{a:Atom}(h:bS s a=true):∀t∈aH a,(bp s t).isSome=true:=by
 intro t ht
 simp only[bS,Bool.and_eq_true] at h
 unfold aH at ht
 rcases Classical.em (a.kind=1) with hk|hk
 ·rw[if_pos hk] at ht
  rw[if_pos hk] at h
  simp only[fX,Bool.and_eq_true,decide_eq_true_eq] at h
  simp only[List.mem_cons,List.not_mem_nil,or_false] at ht
  rcases ht with rfl|rfl
  ·exact h.2.2.1
  ·rw[←h.2.2.2];exact h.2.2.1
 ·rw[if_neg hk] at ht
  rw[if_neg hk] at h
  have:=List.all_eq_true.1 h.2.2 t ht
  rw[aY,decide_eq_true_eq] at this
  rw[this]
  rfl
theorem sW{s:bA}{lits:List aE}(h:bG s lits=true):∀t∈ai lits,(bp s t).isSome=true:=fun t ht=>by
 have hg:=lj h
 have h1:(bB s t).isSome=true:=by
  rw[hg.sx] at ht
  refine ix _ _ (fun u hu=>?_) (by simp) t ht
  obtain⟨l,hl,hu⟩:=j5.1 hu
  have:=DY (Fi h l hl) u hu
  rwa [jh this] at this
 unfold bp
 rw[hg.sig,hg.term t ht]
 exact h1
def Ends(s:bA)(lits:List aE)(m:Model):Prop:=∃more,ai (lits++more)=ai lits∧numsOf s (lits++more)=numsOf s lits∧jB s (lits++more) ∧
 m=⟨cV (ai (lits++more)) (numsOf s (lits++more)) (uq (lits++more)) (nU s (lits++more))⟩
theorem Ends.NZ{s:bA}{lits:List aE}{l:aE}{m:Model}(h:Ends s (lits++[l]) m)(h1:ai (lits++[l])=ai lits)(h2:numsOf s (lits++[l])=numsOf s lits):Ends s lits m:=by
 obtain⟨more,e1,e2,e3,e4⟩:=h
 refine⟨l::more,?_,?_,?_,?_⟩
 ·rw[show lits++l::more=lits++[l]++more by simp,e1,h1]
 ·rw[show lits++l::more=lits++[l]++more by simp,e2,h2]
 ·rw[show lits++l::more=lits++[l]++more by simp];exact e3
 ·rw[show lits++l::more=lits++[l]++more by simp];exact e4
theorem DW{s:bA}:∀(f:Nat)(lits:List aE),c8 s lits→(∀t∈ai lits,(bp s t).isSome=true)→(e5 s (ai lits) (numsOf s lits) f lits).code=0→Ends s lits (e5 s (ai lits) (numsOf s lits) f lits).model
 | 0,lits,_,_,h=>by simp[e5,rm] at h
 | f+1,lits,hg,hs,h=>by
   rcases Classical.em (12<(aI lits).length) with h12|h12
   ·rw[ym h12] at h
    simp[rm] at h
   cases hc:iH (ic (ai lits) (closed (ai lits) (aI lits)).1) lits with
   | some n=>
     rw[ux h12 hc] at h
     simp at h
   | none=>
   rcases Classical.em ((a7 (bH (numsOf s lits) lits)).code=1) with h1|h1
   ·rw[yT h12 hc h1] at h
    simp at h
   rcases Classical.em ((a7 (bH (numsOf s lits) lits)).code=0) with h0|h0
   ·have step:∀{l:aE},Next s lits l→(e5 s (ai lits) (numsOf s lits) f (lits++[l])).code=0→Ends s lits (e5 s (ai lits) (numsOf s lits) f (lits++[l])).model:=fun {l} hn hr=>by
     obtain⟨n1,n2,n3,_⟩:=hn
     have:=DW f (lits++[l]) n1 (by rw[n2];exact hs) (by rw[n2,n3];exact hr)
     rw[n2,n3] at this
     exact this.NZ n2 n3
    cases hp:bj (numsOf s lits).length (dj true (ai lits) (numsOf s lits) (closed (ai lits) (aI lits)).1 lits) with
    | some q=>
      rw[y7 h12 hc h0 hp] at h⊢
      obtain⟨q1,q2,q3⟩:=iB hp
      have hn:=C0 hg q1 q2 (nC q3)
      unfold BI at h⊢
      rcases Classical.em ((e5 s (ai lits) (numsOf s lits) f (lits++[eE ((numsOf s lits).getD q.1 ao) ((numsOf s lits).getD q.2 ao)])).code=1) with hr|hr
      ·rw[if_pos hr] at h
       simp at h
      ·rw[if_neg hr] at h⊢
       exact step hn h
    | none=>
    cases hq:bj (numsOf s lits).length (dj false (ai lits) (numsOf s lits) (closed (ai lits) (aI lits)).1 lits) with
    | some q=>
      rw[pz h12 hc h0 hp hq] at h⊢
      obtain⟨q1,q2,q3⟩:=iB hq
      have hn:=wi hg q1 q2 (sk q3)
      obtain⟨l,hl,h2,h3⟩:=uZ h
      rw[h3]
      obtain⟨x,hx,rfl⟩:=List.mem_map.1 hl
      exact step (hn x hx) h2
    | none=>
      rw[uY h12 hc h0 hp hq] at h⊢
      rcases Classical.em (c6 s ⟨cV (ai lits) (numsOf s lits) (closed (ai lits) (aI lits)).1 (a7 (bH (numsOf s lits) lits)).aw⟩ lits=true) with hm|hm
      ·rw[if_pos hm]
       exact⟨[],by simp,by simp,by simpa using ⟨hg,hs,h0,hp,hq⟩,by simp⟩
      ·rw[if_neg hm] at h
       simp[rm] at h
   ·rw[yq h12 hc h1 h0] at h
    simp[rm] at h
theorem AR{s x:Rat}(hs:aS s=true)(hx:aS x=true):plus s 0 x=c7 s ⟨0,1⟩:=by
 have hD:=PZ hx
 have hw:aS (whole 0)=true:=kJ (by omega) (by omega)
 have e:dh (whole 0) x=(⟨0,1⟩,true):=by
  unfold dh
  rw[if_pos (by simp[hw,hx])]
  simp only[B9,Ja,Int.zero_mul,Int.one_mul]
  rw[r5 (by omega)]
  have hg:(Int.gcd 0 x.D:Int)=x.D:=by rw[Int.gcd_zero_left];omega
  rw[hg,Int.zero_tdiv,Int.tdiv_self (by omega)]
  rfl
 unfold plus
 rw[e]
 rfl
theorem tw:∀(cs:List Int)(xs ys:List Rat)(s:Rat),xs.length=ys.length→(∀x∈xs,aS x=true)→(∀y∈ys,aS y=true)→aS s=true →
 (∀i,cs.getD i 0=0∨xs.getD i (whole 0)=ys.getD i (whole 0))→eu cs xs s=eu cs ys s
 | [],xs,ys,s,_,_,_,_,_=>by rw[nq,nq]
 | c::cs,[],[],s,_,_,_,_,_=>rfl
 | c::cs,[],y::ys,s,h,_,_,_,_=>by simp at h
 | c::cs,x::xs,[],s,h,_,_,_,_=>by simp at h
 | c::cs,x::xs,y::ys,s,hl,hx,hy,hs,he=>by
   have e0:plus s c x=plus s c y:=by
    rcases he 0 with h|h
    ·simp only[List.getD_cons_zero] at h
     rw[h,AR hs (hx x (by simp)),AR hs (hy y (by simp))]
    ·simp only[List.getD_cons_zero] at h
     rw[h]
   rw[eu,eu,e0]
   split
   ·rename_i hp
    exact tw cs xs ys _ (by simpa using hl) (fun z hz=>hx z (by simp[hz])) (fun z hz=>hy z (by simp[hz])) (Ic hp).2 fun i=>by simpa using he (i+1)
   ·rfl
theorem BT:∀(cs:List Int)(i k:Nat)(v:Int),i≠k→(eH cs (i:Int) v).getD k 0=cs.getD k 0
 | [],_,_,_,_=>rfl
 | c::cs,0,0,_,h=>absurd rfl h
 | c::cs,0,k+1,v,_=>by simp[eH]
 | c::cs,i+1,0,v,_=>by
   have h1:¬ ((i+1:Nat):Int)=0:=by omega
   simp only[eH,if_neg h1,List.getD_cons_zero]
 | c::cs,i+1,k+1,v,h=>by
   have h1:¬ ((i+1:Nat):Int)=0:=by omega
   have h2:((i+1:Nat):Int)-1=i:=by omega
   simp only[eH,if_neg h1,h2,List.getD_cons_succ]
   exact BT cs i k v (by omega)
theorem BG{nums:List Term}:∀(ts:List Term)(ns cs:List Int)(k:Nat),(∀t∈ts,t∈nums)→nums.length≤k→(df nums ts ns cs).getD k 0=cs.getD k 0
 | [],ns,cs,k,_,_=>by unfold df;rfl
 | t::ts,[],cs,k,_,_=>by unfold df;rfl
 | t::ts,n::ns,cs,k,ht,hk=>by
   have hm:=ht t (by simp)
   have hp:=aU hm
   rw[df,bo hm,BG ts ns _ k (fun x hx=>ht x (by simp[hx])) hk,BT _ _ _ _ (by omega)]
theorem KO{s:bA}{lits:List aE}(hg:c8 s lits):∀l∈bH (numsOf s lits) lits,∀k,(numsOf s lits).length≤k→l.an.getD k 0=0:=by
 intro l hl k hk
 obtain⟨x,hx,hl⟩:=List.mem_flatMap.1 hl
 have hf:=hg.fit x hx
 have h0:([0,0,0,0]:List Int).getD k 0=0:=by
  rcases Nat.lt_or_ge k 4 with h|h
  ·match k,h with
   | 0,_=>rfl
   | 1,_=>rfl
   | 2,_=>rfl
   | 3,_=>rfl
  ·rw[List.getD_eq_getElem?_getD,List.getElem?_eq_none (by simpa using h)];rfl
 have hlin:∀ts ns b st,(∀t∈ts,t∈numsOf s lits)→(ez (numsOf s lits) ts ns b st).an.getD k 0=0:=fun ts ns b st ht=>by
  rw[ez,BG ts ns _ k ht hk,h0]
 unfold dq at hl
 split at hl
 ·rename_i hk2
  rw[List.mem_singleton] at hl
  rw[hl]
  split
  ·unfold iY
   split
   ·have:=hlin x.atom.nums x.atom.times x.atom.bound x.atom.strict (hf.sum hk2)
    rw[List.getD_eq_getElem?_getD] at this⊢
    rw[List.getElem?_map]
    cases hq:(ez (numsOf s lits) x.atom.nums x.atom.times x.atom.bound x.atom.strict).an[k]? with
    | none=>rfl
    | some c=>
      rw[hq] at this
      simp only[Option.getD_some] at this
      simp[this]
   ·simp[jE]
  ·exact hlin _ _ _ _ (hf.sum hk2)
 ·rename_i hk2
  split at hl
  ·rename_i hc
   have hA:x.atom.A∈numsOf s lits:=bl.1 hc.2
   have hk1:x.atom.kind=1:=(gQ hf.wf).resolve_right hk2
   have hB:=(hf.eq hk1).1 hA
   rcases List.mem_cons.1 hl with hl|hl
   ·rw[hl];exact hlin _ _ _ _ (by simp[hA,hB])
   ·rw[List.mem_singleton] at hl
    rw[hl];exact hlin _ _ _ _ (by simp[hA,hB])
  ·cases hl
def cP(s:bA)(m:Model)(nums:List Term):List Rat:=(List.range 4).map fun i=>if i<nums.length then value m (nums.getD i ao) else whole 0
theorem KB{s:bA}{lits:List aE}(h:(fG s lits).code=0):fR (fV s lits) (cP s (fG s lits).model (eC s lits))=true:=by
 have hb:bG s lits=true:=by
  cases hb:bG s lits with
  | true=>rfl
  | false=>simp[fG,hb] at h
 have e:fG s lits=e5 s (ai lits) (numsOf s lits) 13 lits:=by simp[fG,hb]
 have hg:=lj hb
 rw[e] at h⊢
 obtain⟨more,e1,e2,hS,e4⟩:=DW 13 lits hg (sW hb) h
 rw[e4,fV,eC,hb,if_pos rfl,if_pos rfl]
 have hfa:=ID hS.zW
 have hv:=hS.Sf
 have h4:=hS.v4
 have hval:=fun t ht=>hS.value t ht
 have hnum:∀i,i<(numsOf s lits).length→value ⟨cV (ai (lits++more)) (numsOf s (lits++more)) (uq (lits++more)) (nU s (lits++more))⟩ ((numsOf s lits).getD i ao)=(nU s (lits++more)).getD i (whole 0):=fun i hi=>by
  rw[dN hi]
  have hm:(numsOf s lits)[i]∈numsOf s (lits++more):=by rw[e2];exact List.getElem_mem hi
  rw[hval _ (jv _ hm),hS.pM hm]
  have:al (numsOf s (lits++more)) (numsOf s lits)[i]=i:=by rw[e2,al,gG hg.m8 hi];rfl
  rw[this]
 generalize hm:(⟨cV (ai (lits++more)) (numsOf s (lits++more)) (uq (lits++more)) (nU s (lits++more))⟩:Model)=m at hnum⊢
 change fR (bH (numsOf s (lits++more)) (lits++more)) (nU s (lits++more))=true at hfa
 generalize nU s (lits++more)=aw at *
 have hV4:(cP s m (numsOf s lits)).length=4:=by simp[cP]
 have hVat:∀i,i<4→(cP s m (numsOf s lits)).getD i (whole 0)=if i<(numsOf s lits).length then aw.getD i (whole 0) else whole 0:=fun i hi=>by
  rw[cP,List.getD_eq_getElem?_getD,List.getElem?_map,List.getElem?_range hi]
  simp only[Option.map_some,Option.getD_some]
  split
  ·rename_i hl
   exact hnum i hl
  ·rfl
 have hw:aS (whole 0)=true:=kJ (by omega) (by omega)
 have hVok:∀x∈cP s m (numsOf s lits),aS x=true:=fun x hx=>by
  obtain⟨i,hi,rfl⟩:=List.mem_map.1 hx
  split
  ·rename_i hl
   have hi4:=List.mem_range.1 hi
   rw[hnum i hl,dN (by omega)]
   exact hv _ (List.getElem_mem _)
  ·exact hw
 simp only[fR,dC,kM,Bool.and_eq_true,decide_eq_true_eq,List.all_eq_true,e2,bH,List.flatMap_append,List.length_append,List.mem_append] at hfa⊢
 refine⟨⟨decide_eq_true (Nat.le_trans (Nat.le_add_right _ _) hfa.1.1),fun l hl=>hfa.1.2 l (.inl hl)⟩,⟨hV4,hVok⟩,fun l hl=>?_⟩
 rw[←hfa.2.2 l (.inl hl)]
 have hsum:eu l.an (cP s m (numsOf s lits)) (whole 0)=eu l.an aw (whole 0):=by
  refine tw _ _ _ _ (by rw[hV4,h4]) hVok hv hw fun i=>?_
  rcases Nat.lt_or_ge i (numsOf s lits).length with hi|hi
  ·right
   rw[hVat i (by have:=hg.n4;omega),if_pos hi]
  ·exact .inl (KO hg l hl i hi)
 have hA1:kM (cP s m (numsOf s lits))=true:=by
  simp only[kM,Bool.and_eq_true,decide_eq_true_eq,List.all_eq_true]
  exact⟨hV4,hVok⟩
 have hA2:kM aw=true:=by
  simp only[kM,Bool.and_eq_true,decide_eq_true_eq,List.all_eq_true]
  exact⟨h4,hv⟩
 rw[lQ,lQ,hsum,hA1,hA2]
end Go.Mod
