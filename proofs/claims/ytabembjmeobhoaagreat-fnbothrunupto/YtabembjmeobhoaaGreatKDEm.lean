/-
  Plain laws on rational numbers as what they are: sums, products and order of the exact ones; what a constraint tells of an assignment. No program is walked here.
-/
import Derived.Test.YtabembjmeobhoaaGreatKDEl
set_option linter.unusedVariables false
set_option linter.unusedSimpArgs false
open Bool renaming and_eq_true→al,false_eq_true→ax,true_and→aB,not_false→jK,and_true→l8,not_eq_true'→mq
open Classical renaming em→aa
open Int renaming gcd→bN
open List renaming getElem_mem→ak,mem_append→aP,mem_cons_of_mem→bh,range→bx,getElem?_eq_some_iff→bH,mem_append_left→du,mem_singleton→fb
open Nat renaming lt_trichotomy→eQ
namespace Go.Mod
open Go.Eng
set_option maxRecDepth 100000
abbrev QQ:=_root_.Rat
def qv(r:Rat):QQ:=(r.N:QQ) / (r.D:QQ)
theorem Vx{d:Int}(h:0<d):(0:QQ)<(d:QQ):=Rat.intCast_pos.2 h
theorem T1{d:Int}(h:0<d):(d:QQ)≠0:=fun e=>by
 have:=Vx h
 rw[e] at this
 exact absurd this (by decide)
theorem Zf{n d m e:Int}(hd:0<d)(he:0<e):(n:QQ) / d=(m:QQ) / e↔n*e=m*d:=by
 have h1:=T1 hd
 have h2:=T1 he
 constructor
 ·intro h
  have h3:(n:QQ) / d*d*e=(m:QQ) / e*e*d:=by rw[h];grind
  rw[Rat.div_mul_cancel h1,Rat.div_mul_cancel h2] at h3
  rw[←Rat.intCast_mul,←Rat.intCast_mul] at h3
  exact Rat.intCast_inj.1 h3
 ·intro h
  have h3:(n:QQ)*e=(m:QQ)*d:=by rw[←Rat.intCast_mul,←Rat.intCast_mul,h]
  have h4:(n:QQ) / d*d=n:=Rat.div_mul_cancel h1
  have h5:(m:QQ) / e*e=m:=Rat.div_mul_cancel h2
  generalize (n:QQ) / d=x at *
  generalize (m:QQ) / e=y at *
  have h6:x*(d*e)=y*(d*e):=by grind
  have h7:x*(d*e) / (d*e)=y*(d*e) / (d*e):=by rw[h6]
  have h8:(d:QQ)*e≠0:=fun e0=>by
   have:=Rat.mul_pos (Vx hd) (Vx he)
   rw[e0] at this
   exact absurd this (by decide)
  rwa [Rat.mul_div_cancel h8,Rat.mul_div_cancel h8] at h7
theorem abM{n d m e:Int}(hd:0<d)(he:0<e):(n:QQ) / d<(m:QQ) / e↔n*e<m*d:=by
 have h1:=Vx hd
 have h2:=Vx he
 have h4:(n:QQ) / d*d=n:=Rat.div_mul_cancel (T1 hd)
 have h5:(m:QQ) / e*e=m:=Rat.div_mul_cancel (T1 he)
 have h6:(0:QQ)<d*e:=Rat.mul_pos h1 h2
 rw[←Rat.intCast_lt_intCast,Rat.intCast_mul,Rat.intCast_mul]
 generalize (n:QQ) / d=x at *
 generalize (m:QQ) / e=y at *
 rw[←Rat.mul_lt_mul_right h6,←h4,←h5]
 have e1:x*d*e=x*(d*e):=by grind
 have e2:y*e*d=y*(d*e):=by grind
 rw[e1,e2]
theorem Za{a:Rat}(h:bX a=true):0<a.D:=by have:=(n6.1 h).2.1.1;omega
theorem Q8{a b:Rat}(ha:bX a=true)(hb:bX b=true):cY a b=true↔qv a<qv b:=by
 rw[fB ha hb,qv,qv,abM (Za ha) (Za hb)]
theorem ZD{a b:Rat}(ha:bX a=true)(hb:bX b=true)(h:qv a=qv b):a=b:=by
 rcases aa (a=b) with e|e
 ·exact e
 ·rcases zu ha hb e with h1|h1
  ·have:=(Q8 ha hb).1 h1
   rw[h] at this
   exact absurd this (Rat.lt_irrefl)
  ·have:=(Q8 hb ha).1 h1
   rw[h] at this
   exact absurd this (Rat.lt_irrefl)
theorem AJ(n:Int):qv (whole n)=n:=by
 have:(n:QQ) / ((1:Int):QQ)*((1:Int):QQ)=n:=Rat.div_mul_cancel (T1 (by omega))
 rw[Rat.intCast_one,Rat.mul_one] at this
 exact this
theorem Ka{n d:Int}(hd:0<d)(h:(il n d).2=true):qv (il n d).1=(n:QQ) / d:=by
 rw[Al (by omega)] at h⊢
 split at h
 ·rename_i eW
  rw[if_pos eW]
  have hg:0<(bN n d:Int):=by
   have:=Int.gcd_pos_of_ne_zero_right n (b:=d) (by omega)
   omega
  have h1:n.tdiv (bN n d)*(bN n d:Int)=n:=Int.tdiv_mul_cancel (Int.gcd_dvd_left ..)
  have h2:d.tdiv (bN n d)*(bN n d:Int)=d:=Int.tdiv_mul_cancel (Int.gcd_dvd_right ..)
  have hD:=Za eW
  simp only at hD
  refine(Zf hD hd).2 ?_
  generalize n.tdiv (bN n d)=x at *
  generalize d.tdiv (bN n d)=y at *
  rw[←h1,←h2]
  grind
 ·cases h
theorem aaW{n d m e:Int}(hd:0<d)(he:0<e):(n:QQ) / d+(m:QQ) / e=((n*e+m*d:Int):QQ) / ((d*e:Int):QQ):=by
 have h4:(n:QQ) / d*d=n:=Rat.div_mul_cancel (T1 hd)
 have h5:(m:QQ) / e*e=m:=Rat.div_mul_cancel (T1 he)
 have h8:=T1 (Int.mul_pos hd he)
 have h9:((n:QQ) / d+(m:QQ) / e)*((d*e:Int):QQ)=((n*e+m*d:Int):QQ):=by
  rw[Rat.intCast_mul,Rat.intCast_add,Rat.intCast_mul,Rat.intCast_mul]
  generalize (n:QQ) / d=x at *
  generalize (m:QQ) / e=y at *
  rw[←h4,←h5]
  grind
 rw[←h9,Rat.mul_div_cancel h8]
theorem abb{n d m e:Int}(hd:0<d)(he:0<e):(n:QQ) / d*((m:QQ) / e)=((n*m:Int):QQ) / ((d*e:Int):QQ):=by
 have h4:(n:QQ) / d*d=n:=Rat.div_mul_cancel (T1 hd)
 have h5:(m:QQ) / e*e=m:=Rat.div_mul_cancel (T1 he)
 have h8:=T1 (Int.mul_pos hd he)
 have h9:((n:QQ) / d*((m:QQ) / e))*((d*e:Int):QQ)=((n*m:Int):QQ):=by
  rw[Rat.intCast_mul,Rat.intCast_mul]
  generalize (n:QQ) / d=x at *
  generalize (m:QQ) / e=y at *
  rw[←h4,←h5]
  grind
 rw[←h9,Rat.mul_div_cancel h8]
theorem aaq{a b:Rat}(h:(db a b).2=true):qv (db a b).1=qv a+qv b∧bX (db a b).1=true:=by
 refine⟨?_,Jr h⟩
 unfold db at h⊢
 split at h
 ·rename_i eW
  simp only[al] at eW
  have hA:=Za eW.1
  have hB:=Za eW.2
  rw[if_pos (by simp[eW]),Ka (Int.mul_pos hA hB) h,qv,qv,aaW hA hB]
 ·cases h
theorem ZU{a b:Rat}(h:(cC a b).2=true):qv (cC a b).1=qv a*qv b∧bX (cC a b).1=true:=by
 unfold cC at h⊢
 split at h
 ·rename_i eW
  simp only[al] at eW
  have hA:=Za eW.1
  have hB:=Za eW.2
  rw[if_pos (by simp[eW])]
  refine⟨?_,Ji h⟩
  rw[Ka (Int.mul_pos hA hB) h,qv,qv,abb hA hB]
 ·cases h
theorem Yg{s x:Rat}{c:Int}(h:(plus s c x).2=true):qv (plus s c x).1=qv s+c*qv x∧bX (plus s c x).1=true:=by
 unfold plus at h⊢
 split at h
 ·rename_i hm
  rw[if_pos hm]
  have h1:=ZU hm
  have h2:=aaq h
  rw[h1.1,AJ] at h2
  exact h2
 ·cases h
def dot:List Int→List Rat→QQ
 | c::cs,x::xs=>c*qv x+dot cs xs
 | _,_=>0
theorem Gf:∀{cs:List Int}{xs:List Rat}{s r:Rat},lf cs xs s=some r→bX s=true→qv r=qv s+dot cs xs∧bX r=true
 | [],xs,s,r,h,hs=>by
   rw[GS] at h
   cases h
   have e:dot [] xs=0:=by unfold dot;rfl
   exact⟨by rw[e];grind,hs⟩
 | c::cs,[],s,r,h,hs=>by
   have e0:lf (c::cs) [] s=some s:=by unfold lf;rfl
   rw[e0] at h
   cases h
   have e:dot (c::cs) []=0:=by unfold dot;rfl
   exact⟨by rw[e];grind,hs⟩
 | c::cs,x::xs,s,r,h,hs=>by
   rw[lf] at h
   split at h
   ·rename_i hp
    have h1:=Yg hp
    have h2:=Gf h h1.2
    exact⟨by rw[h2.1,h1.1,dot];grind,h2.2⟩
   ·cases h
theorem XO{a:Rat}{b:Int}{st:Bool}(ha:bX a=true)(hb:-1000000000≤b∧b≤1000000000):below a b st=true↔(if st then qv a<b else qv a≤b):=by
 have hw:=rX hb.1 hb.2
 unfold below
 cases st with
 | true=>simp only[if_true];rw[Q8 ha hw,AJ]
 | false=>
   simp only[ax,if_false,mq]
   have:=Q8 hw ha
   rw[AJ] at this
   rw[←Bool.not_eq_true,this,Rat.not_lt]
def ud(l:iV)(aH:List Rat):Prop:=if l.strict then dot l.aF aH<l.bound else dot l.aF aH≤l.bound
theorem Nf{l:iV}(h:eu l=true):-1000000≤l.bound∧l.bound≤1000000:=by
 simp only[eu,np,within,al,decide_eq_true_eq] at h
 exact h.2.2
theorem N2{l:iV}{aH:List Rat}(h:mi l aH=some true):ud l aH:=by
 unfold mi at h
 split at h
 ·rename_i eW
  simp only[al] at eW
  cases hs:lf l.aF aH (whole 0) with
  | none=>rw[hs] at h;cases h
  | some r=>
    rw[hs] at h
    have h1:=Gf hs (rX (by omega) (by omega))
    have hb:=Nf eW.1
    have h2:=(XO (st:=l.strict) h1.2 ⟨by omega,by omega⟩).1 (Option.some.inj h)
    rw[h1.1,AJ] at h2
    unfold ud
    have e:((0:Int):QQ)+dot l.aF aH=dot l.aF aH:=by grind
    rwa [e] at h2
 ·cases h
theorem Lv{list:List iV}{aH:List Rat}(h:lg list aH=true):∀l∈list,ud l aH:=fun l hl=>by
 simp only[lg,al,List.all_eq_true,decide_eq_true_eq] at h
 exact N2 (h.2.2 l hl)
theorem FI{α:Type}{nums:List Term}{f:Nat→α}:∀{eqs:List fO}{out:List Nat},out.length=nums.length→(∀i k,i<nums.length→k<nums.length→cl out i=cl out k→f i=f k) →
 (∀e∈eqs,e.A∈nums→e.B∈nums→f (aG nums e.A)=f (aG nums e.B))→∀i k,i<nums.length→k<nums.length→cl (eqs.foldl (eY nums) out) i=cl (eqs.foldl (eY nums) out) k→f i=f k
 | [],_,_,h,_,i,k,hi,hk,he=>h i k hi hk he
 | e::es,out,hl,h,hE,i,k,hi,hk,he=>by
   rw[List.foldl_cons] at he
   refine FI (eqs:=es) (out:=eY nums out e) (by unfold eY;split<;>simp[hl]) ?_ (fun x hx=>hE x (bh _ hx)) i k hi hk he
   intro i k hi hk hik
   unfold eY at hik
   rcases aa (bK nums e.A<0∨bK nums e.B<0) with hn|hn
   ·rw[if_pos hn] at hik
    exact h i k hi hk hik
   ·rw[if_neg hn] at hik
    have hA:e.A∈nums:=cV.1 (by omega)
    have hB:e.B∈nums:=cV.1 (by omega)
    have pA:=bA hA
    have pB:=bA hB
    have hab:=hE e (by simp) hA hB
    rw[vN (by omega),vN (by omega)] at hik
    rcases aa (cl out i=cl out (aG nums e.A)) with h1|h1
    ·rcases aa (cl out k=cl out (aG nums e.A)) with h2|h2
     ·exact h i k hi hk (h1.trans h2.symm)
     ·rw[if_pos h1,if_neg h2] at hik
      rw[h i _ hi pA h1,hab,h _ k pB hk hik]
    ·rcases aa (cl out k=cl out (aG nums e.A)) with h2|h2
     ·rw[if_neg h1,if_pos h2] at hik
      rw[h i _ hi pB hik,←hab,h _ k pA hk h2.symm]
     ·rw[if_neg h1,if_neg h2] at hik
      exact h i k hi hk hik
theorem Oq{α:Type}{nums:List Term}{ab:List bm}{f:Nat→α}(hE:∀e∈aZ ab,e.A∈nums→e.B∈nums→f (aG nums e.A)=f (aG nums e.B)){i k:Nat}(hi:i<nums.length)(hk:k<nums.length)(h:linked nums ab i k=true):f i=f k:=by
 refine FI (out:=bx nums.length) (by simp) (fun i k hi hk he=>?_) hE i k hi hk (of_decide_eq_true h)
 rw[gX (by simpa using hi),gX (by simpa using hk)] at he
 simp only[List.getElem_range] at he
 rw[he]
theorem Jt:∀(cs:List Int)(aH:List Rat)(i:Nat)(v:Int),cs.length=aH.length→i<cs.length→dot (mL cs i v) aH=dot cs aH+v*qv (aH.getD i (whole 0))
 | [],_,i,_,_,h=>by simp at h
 | c::cs,[],_,_,h,_=>by simp at h
 | c::cs,x::xs,0,v,h,hi=>by
   simp only[mL,Int.natCast_zero,if_true,dot,List.getD_cons_zero,Rat.intCast_add]
   grind
 | c::cs,x::xs,i+1,v,h,hi=>by
   have h1:¬ ((i+1:Nat):Int)=0:=by omega
   have h2:((i+1:Nat):Int)-1=i:=by omega
   simp only[mL,if_neg h1,h2,dot,List.getD_cons_succ]
   rw[Jt cs xs i v (by simpa using h) (by simpa using hi)]
   grind
def yQ(nums:List Term)(aH:List Rat):List Term→List Int→QQ
 | t::ts,n::ns=>n*qv (aH.getD (aG nums t) (whole 0))+yQ nums aH ts ns
 | _,_=>0
theorem Km{nums:List Term}{aH:List Rat}:∀(ts:List Term)(ns cs:List Int),(∀t∈ts,t∈nums)→nums.length≤cs.length→cs.length=aH.length→dot (jU nums ts ns cs) aH=dot cs aH+yQ nums aH ts ns
 | [],ns,cs,_,_,_=>by
   have e1:jU nums [] ns cs=cs:=by unfold jU;rfl
   have e2:yQ nums aH [] ns=0:=by unfold yQ;rfl
   rw[e1,e2];grind
 | t::ts,[],cs,_,_,_=>by
   have e1:jU nums (t::ts) [] cs=cs:=by unfold jU;rfl
   have e2:yQ nums aH (t::ts) []=0:=by unfold yQ;rfl
   rw[e1,e2];grind
 | t::ts,n::ns,cs,ht,hn,hc=>by
   have hm:=ht t (by simp)
   have hp:=bA hm
   rw[jU,cd hm,Km ts ns _ (fun x hx=>ht x (by simp[hx])) (by rw[yM];exact hn) (by rw[yM];exact hc),Jt cs aH _ n hc (by omega),yQ]
   grind
theorem Wu:∀(aH:List Rat),dot [0,0,0,0] aH=0
 | []=>by unfold dot;rfl
 | [a]=>by simp only[dot];grind
 | [a,b]=>by simp only[dot];grind
 | [a,b,c]=>by simp only[dot];grind
 | a::b::c::d::r=>by simp only[dot];grind
theorem sY{nums ts:List Term}{ns:List Int}{b:Int}{st:Bool}{aH:List Rat}(h4:nums.length≤4)(hv:aH.length=4)(ht:∀t∈ts,t∈nums):ud (mh nums ts ns b st) aH↔(if st then yQ nums aH ts ns<b else yQ nums aH ts ns≤b):=by
 unfold ud mh
 simp only
 rw[Km ts ns [0,0,0,0] ht (by simpa using h4) (by simp[hv]),Wu]
 have e:(0:QQ)+yQ nums aH ts ns=yQ nums aH ts ns:=by grind
 rw[e]
def Ch(aH:List Rat)(i:Nat):QQ:=qv (aH.getD i (whole 0))
theorem Gv{nums:List Term}{aH:List Rat}{a b:Term}{m n:Int}:yQ nums aH [a,b] [m,n]=m*Ch aH (aG nums a)+n*Ch aH (aG nums b):=by
 have e:yQ nums aH [] []=0:=by unfold yQ;rfl
 rw[yQ,yQ,e,Ch,Ch]
 grind
theorem YC{list:List iV}(h:(bL list).code=0):lg list (bL list).aH=true:=by
 have hend:∀s0 s1 s2 s3 rows,(ik list s0 s1 s2 s3 rows).code=0→lg list (ik list s0 s1 s2 s3 rows).aH=true:=fun s0 s1 s2 s3 rows h=>by
  unfold ik at h⊢
  split at h
  ·split at h<;>simp at h
  ·split at h
   ·simp at h
   ·split at h
    ·rename_i hf
     rw[if_pos hf]
     exact hf
    ·simp at h
 unfold bL at h⊢
 split at h
 ·rename_i hs
  rw[if_pos hs]
  split at h
  ·simp at h
  ·split at h
   ·simp at h
   ·split at h
    ·simp at h
    ·split at h
     ·simp at h
     ·exact hend _ _ _ _ _ h
 ·simp at h
theorem Bq{af:List Term}:∀(f:Nat)(c:List Nat)(aj:List Step),c.sum≤f→c.length=af.length→fD af (kh af f c aj).1=none
 | f,c,aj,hs,hc=>by
   cases hn:fD af c with
   | none=>rw[vr hn];exact hn
   | some p=>
     obtain⟨f',rfl,h1,h2⟩:=vW (aj:=aj) hs hc hn
     rw[h1]
     exact Bq f' _ _ h2 (by rw[fK];exact hc)
theorem N3(af:List Term)(eqs:List fO):fD af (closed af eqs).1=none:=
 Bq _ _ _ (Nat.le_refl _) (by rw[given,tr,List.length_range])
theorem zk{af:List Term}{c:List Nat}(h:fD af c=none){i k:Nat}(h1:i<k)(h2:k<af.length)(ha:alike af c i k=true):cl c i=cl c k:=by
 have:=List.find?_eq_none.1 h (i,k) (zI.2 ⟨h1,Nat.zero_le _,h2⟩)
 simp only[mY,ha,l8,decide_eq_true_eq,ne_eq,Decidable.not_not] at this
 exact this
structure ql(s:dK)(ab:List bm):Prop where
 xd:ic s ab
 sorted:∀t∈aw ab,(fv s t).isSome=true
 Ju:(bL (dF (numsOf s ab) ab)).code=0
 same:bW (numsOf s ab).length (dU true (aw ab) (numsOf s ab) (closed (aw ab) (aZ ab)).1 ab)=none
 told:bW (numsOf s ab).length (dU false (aw ab) (numsOf s ab) (closed (aw ab) (aZ ab)).1 ab)=none
section
variable{s:dK}{ab:List bm}(h:ql s ab)
abbrev yy(s:dK)(ab:List bm):List Rat:=(bL (dF (numsOf s ab) ab)).aH
abbrev EB(ab:List bm):List Nat:=(closed (aw ab) (aZ ab)).1
include h
theorem ql.v4:(yy s ab).length=4:=(A5 h.Ju).1
theorem ql.vok:∀x∈yy s ab,bX x=true:=(A5 h.Ju).2
theorem ql.holds:∀l∈ab,∀x∈jP (numsOf s ab) l,ud x (yy s ab):=fun l hl x hx=>
 Lv (YC h.Ju) x (List.mem_flatMap.2 ⟨l,hl,hx⟩)
theorem ql.abn{e:fO}(he:e∈aZ ab)(hA:e.A∈numsOf s ab)(hB:e.B∈numsOf s ab):Ch (yy s ab) (aG (numsOf s ab) e.A)=Ch (yy s ab) (aG (numsOf s ab) e.B):=by
 obtain⟨l,hl,h1,h2,rfl⟩:=Jg.1 he
 have hll:jP (numsOf s ab) l=[mh (numsOf s ab) [l.atom.A,l.atom.B] [1,-1] 0 false,mh (numsOf s ab) [l.atom.A,l.atom.B] [-1,1] 0 false]:=by
  unfold jP
  rw[if_neg (by omega),if_pos ⟨h2,cV.2 hA⟩]
 have ht:∀t∈[l.atom.A,l.atom.B],t∈numsOf s ab:=by simp[hA,hB]
 have k1:=(sY h.xd.n4 h.v4 ht).1 (h.holds l hl (mh (numsOf s ab) [l.atom.A,l.atom.B] [1,-1] 0 false) (by rw[hll];simp))
 have k2:=(sY h.xd.n4 h.v4 ht).1 (h.holds l hl (mh (numsOf s ab) [l.atom.A,l.atom.B] [-1,1] 0 false) (by rw[hll];simp))
 rw[Gv] at k1 k2
 simp only[ax,if_false] at k1 k2
 show Ch (yy s ab) (aG (numsOf s ab) l.atom.A)=Ch (yy s ab) (aG (numsOf s ab) l.atom.B)
 generalize Ch (yy s ab) (aG (numsOf s ab) l.atom.A)=x at *
 generalize Ch (yy s ab) (aG (numsOf s ab) l.atom.B)=y at *
 grind
theorem ql.Ug{i k:Nat}(hi:i<(numsOf s ab).length)(hk:k<(numsOf s ab).length)(hs:eS (numsOf s ab) ab i k=true):Ch (yy s ab) i<Ch (yy s ab) k:=by
 obtain⟨l,hl,h1⟩:=List.any_eq_true.1 hs
 simp only[al,mq,decide_eq_true_eq] at h1
 rw[getD_at hi,getD_at hk] at h1
 have hmi:=ak hi
 have hmk:=ak hk
 have pi:aG (numsOf s ab) (numsOf s ab)[i]=i:=by rw[aG,jG h.xd.sj hi];rfl
 have pk:aG (numsOf s ab) (numsOf s ab)[k]=k:=by rw[aG,jG h.xd.sj hk];rfl
 have hkd:l.atom.kind=2:=by rw[h1.2];unfold eE;split<;>rfl
 have hll:jP (numsOf s ab) l=[mh (numsOf s ab) l.atom.nums l.atom.times l.atom.bound l.atom.strict]:=by
  unfold jP
  rw[if_pos hkd,h1.1]
  rfl
 have k0:=h.holds l hl _ (by rw[hll];exact fb.2 rfl)
 rw[h1.2] at k0
 generalize (numsOf s ab)[i]=a at *
 generalize (numsOf s ab)[k]=b at *
 unfold eE at k0
 split at k0
 ·have k1:=(sY h.xd.n4 h.v4 (by simp[hmi,hmk])).1 k0
  rw[Gv,pi,pk] at k1
  simp only[if_true] at k1
  generalize Ch (yy s ab) i=x at *
  generalize Ch (yy s ab) k=y at *
  grind
 ·have k1:=(sY h.xd.n4 h.v4 (by simp[hmi,hmk])).1 k0
  rw[Gv,pi,pk] at k1
  simp only[if_true] at k1
  generalize Ch (yy s ab) i=x at *
  generalize Ch (yy s ab) k=y at *
  grind
theorem ql.S2{i k:Nat}(hi:i<(numsOf s ab).length)(hk:k<(numsOf s ab).length)(hl:linked (numsOf s ab) ab i k=true):Ch (yy s ab) i=Ch (yy s ab) k:=
 Oq (f:=Ch (yy s ab)) (fun _ he hA hB=>h.abn he hA hB) hi hk hl
theorem ql.Ua{i k:Nat}(hi:i<(numsOf s ab).length)(hk:k<(numsOf s ab).length)(hl:linked (numsOf s ab) ab i k=true):cl (EB ab) (aG (aw ab) ((numsOf s ab).getD i aM))=cl (EB ab) (aG (aw ab) ((numsOf s ab).getD k aM)):=by
 refine Oq (f:=fun i=>cl (EB ab) (aG (aw ab) ((numsOf s ab).getD i aM))) (fun e he hA hB=>?_) hi hk hl
 have:=Ph (af:=aw ab) h.xd.Bx he
 rw[getD_at (bA hA),getD_at (bA hB)]
 have g:∀{t:Term}(ht:t∈numsOf s ab),(numsOf s ab)[aG (numsOf s ab) t]'(bA ht)=t:=fun ht=>(bH.1 (jt ht)).2
 rw[g hA,g hB]
 exact of_decide_eq_true this
theorem ql.W8{i k:Nat}(hi:i<(numsOf s ab).length)(hk:k<(numsOf s ab).length)(hs:cl (EB ab) (aG (aw ab) ((numsOf s ab).getD i aM))=cl (EB ab) (aG (aw ab) ((numsOf s ab).getD k aM))):Ch (yy s ab) i=Ch (yy s ab) k:=by
 have key:∀i k,i<k→k<(numsOf s ab).length→cl (EB ab) (aG (aw ab) ((numsOf s ab).getD i aM))=cl (EB ab) (aG (aw ab) ((numsOf s ab).getD k aM))→Ch (yy s ab) i=Ch (yy s ab) k:=fun i k h1 h2 hs=>by
  have h3:=xm h.same h1 h2
  have hsm:gg (aw ab) (EB ab) ((numsOf s ab).getD i aM) ((numsOf s ab).getD k aM)=true:=decide_eq_true hs
  simp only[dU,hsm,if_true,l8,Bool.not_eq_false'] at h3
  exact h.S2 (by omega) h2 h3
 rcases eQ i k with h1|rfl|h1
 ·exact key i k h1 hk hs
 ·rfl
 ·exact(key k i h1 hi hs.symm).symm
theorem ql.Yr{i k:Nat}(hi:i<(numsOf s ab).length)(hk:k<(numsOf s ab).length)(hs:Ch (yy s ab) i=Ch (yy s ab) k):cl (EB ab) (aG (aw ab) ((numsOf s ab).getD i aM))=cl (EB ab) (aG (aw ab) ((numsOf s ab).getD k aM)):=by
 have key:∀i k,i<k→k<(numsOf s ab).length→Ch (yy s ab) i=Ch (yy s ab) k→cl (EB ab) (aG (aw ab) ((numsOf s ab).getD i aM))=cl (EB ab) (aG (aw ab) ((numsOf s ab).getD k aM)):=fun i k h1 h2 hs=>by
  have h3:=xm h.told h1 h2
  simp only[dU,ax,if_false] at h3
  cases hl:linked (numsOf s ab) ab i k with
  | true=>exact h.Ua (by omega) h2 hl
  | false=>
    rw[hl] at h3
    simp only[jK,aB] at h3
    cases ha:eS (numsOf s ab) ab i k with
    | true=>
      have:=h.Ug (by omega) h2 ha
      rw[hs] at this
      exact absurd this Rat.lt_irrefl
    | false=>
      rw[ha] at h3
      simp only[jK,aB,Bool.not_eq_false'] at h3
      have:=h.Ug h2 (by omega) h3
      rw[hs] at this
      exact absurd this Rat.lt_irrefl
 rcases eQ i k with h1|rfl|h1
 ·exact key i k h1 hk hs
 ·rfl
 ·exact(key k i h1 hi hs.symm).symm
end
theorem AD{s:dK}:∀{ks:List Term}{as:List Int},gD s ks as=true→as.length=ks.length→∀(j:Nat)(h1:j<ks.length)(h2:j<as.length),fR s ks[j]=some as[j]
 | [],_,_,_,j,h1,_=>by simp at h1
 | k::ks,[],_,h,_,_,_=>by simp at h
 | k::ks,a::as,h,hl,0,_,_=>by
   simp only[gD,al,decide_eq_true_eq] at h
   exact h.1
 | k::ks,a::as,h,hl,j+1,h1,h2=>by
   simp only[gD,al,decide_eq_true_eq] at h
   simpa using AD h.2 (by simpa using hl) j (by simpa using h1) (by simpa using h2)
theorem Q4{s:dK}{t:Term}{r:Int}(h:fR s t=some r):∃x,symbol s t.name=some x∧x.args.length=t.kids.length∧gD s t.kids x.args=true∧x.sort=r:=by
 obtain⟨n,ks⟩:=t
 rw[fR] at h
 split at h
 ·cases h
 ·rename_i x hx
  split at h
  ·rename_i hc
   simp only[al,decide_eq_true_eq] at hc
   exact⟨x,hx,hc.1,hc.2,Option.some.inj h⟩
  ·cases h
theorem tV{s:dK}{t:Term}(h:(fv s t).isSome=true):fv s t=fR s t:=by
 unfold fv at h⊢
 split
 ·rfl
 ·rename_i hc
  rw[if_neg hc] at h
  cases h
theorem Qv{rs:List Row}{t r:Row}(h:r∈putRow rs t):r∈rs∨r=t:=by
 rw[sr] at h
 split at h
 ·exact .inl h
 ·rcases aP.1 h with h|h
  ·exact .inl (List.mem_of_mem_take h)
  ·rcases List.mem_cons.1 h with h|h
   ·exact .inr h
   ·exact .inl (List.mem_of_mem_drop h)
theorem Nt{rs:List Row}{t r:Row}(h:r∈rs):r∈putRow rs t:=by
 rw[sr]
 split
 ·exact h
 ·rw[←List.take_append_drop (cut rs t) rs] at h
  rcases aP.1 h with h|h
  ·exact du _ h
  ·exact List.mem_append_right _ (bh _ h)
theorem PA{rs:List Row}{t:Row}(hr:∀r∈rs,dI r.args=true)(ht:dI t.args=true):∃r∈putRow rs t,r.name=t.name∧r.args=t.args:=by
 rw[sr]
 split
 ·rename_i hf
  unfold found at hf
  split at hf
  ·rename_i r hx
   have hm:=List.mem_of_getElem? hx
   exact⟨r,hm,(qI (hr r hm) ht).1 (of_decide_eq_true hf)⟩
  ·cases hf
 ·exact⟨t,by simp,rfl,rfl⟩
theorem MH{g:Term→Row}(hg:∀t,dI (g t).args=true):∀(ts:List Term)(rs:List Row)(done:List Term),(∀r∈rs,∃u∈done,r=g u)→(∀t∈done,∃r∈rs,r.name=(g t).name∧r.args=(g t).args) →
 (∀r∈ts.foldl (fun rows t=>putRow rows (g t)) rs,∃u∈done++ts,r=g u)∧(∀t∈done++ts,∃r∈ts.foldl (fun rows t=>putRow rows (g t)) rs,r.name=(g t).name∧r.args=(g t).args)
 | [],rs,done,h1,h2=>by simpa using ⟨h1,h2⟩
 | t::ts,rs,done,h1,h2=>by
   have eW:∀r∈rs,dI r.args=true:=fun r hr=>by
    obtain⟨u,_,rfl⟩:=h1 r hr
    exact hg u
   have:=MH hg ts (putRow rs (g t)) (done++[t]) (fun r hr=>by
    rcases Qv hr with hr|hr
    ·obtain⟨u,hu,e⟩:=h1 r hr
     exact⟨u,du _ hu,e⟩
    ·exact⟨t,by simp,hr⟩) (fun u hu=>by
    rcases aP.1 hu with hu|hu
    ·obtain⟨r,hr,e⟩:=h2 u hu
     exact⟨r,Nt hr,e⟩
    ·rw[fb.1 hu]
     exact PA eW (hg t))
   rw[List.append_assoc] at this
   exact this
theorem Tq{rows:List Row}{n:nz}{as:List Rat}{v:Rat}(h1:∃r∈rows,r.name=n∧r.args=as)(h2:∀r∈rows,r.name=n→r.args=as→r.val=v):lookup rows n as=v:=by
 unfold lookup
 obtain⟨r,hr,e⟩:=h1
 cases hf:rows.find? (fun r=>decide (r.name=n∧r.args=as)) with
 | none=>
   have:=List.find?_eq_none.1 hf r hr
   exact absurd (decide_eq_true e) this
 | some x=>
   have hx:=List.find?_some hf
   have:=of_decide_eq_true hx
   exact h2 x (List.mem_of_find?_eq_some hf) this.1 this.2
section
variable{s:dK}{ab:List bm}(h:ql s ab)
abbrev Q6(s:dK)(ab:List bm)(t:Term):Rat:=iJ (aw ab) (numsOf s ab) (EB ab) (yy s ab) t
include h
theorem ql.sort{t:Term}(ht:t∈aw ab):∃x,symbol s t.name=some x∧x.args.length=t.kids.length∧gD s t.kids x.args=true∧fv s t=some x.sort:=by
 have h1:=h.sorted t ht
 have h2:=tV h1
 obtain⟨r,hr⟩:=Option.isSome_iff_exists.1 h1
 obtain⟨x,x1,x2,x3,x4⟩:=Q4 (h2▸hr)
 exact⟨x,x1,x2,x3,by rw[hr,x4]⟩
theorem ql.ER{t:Term}(ht:t∈aw ab):t∈numsOf s ab↔fv s t=some 1:=by
 have _:=h.Ju
 rw[←FD,List.mem_filter]
 simp[ht,dw]
theorem ql.U6{t u:Term}(ht:t∈aw ab)(hu:u∈aw ab)(hn:t.name=u.name):t∈numsOf s ab↔u∈numsOf s ab:=by
 obtain⟨x,x1,_,_,x4⟩:=h.sort ht
 obtain⟨y,y1,_,_,y4⟩:=h.sort hu
 rw[hn,y1] at x1
 obtain rfl:=Option.some.inj x1
 rw[h.ER ht,h.ER hu,x4,y4]
theorem ql.TM{t u:Term}(ht:t∈aw ab)(hu:u∈aw ab)(hn:t.name=u.name)(j:Nat)(h1:j<t.kids.length)(h2:j<u.kids.length):t.kids[j]∈numsOf s ab↔u.kids[j]∈numsOf s ab:=by
 obtain⟨x,x1,x2,x3,_⟩:=h.sort ht
 obtain⟨y,y1,y2,y3,_⟩:=h.sort hu
 rw[hn,y1] at x1
 obtain rfl:=Option.some.inj x1
 have kt:=h.xd.kids t ht _ (ak h1)
 have ku:=h.xd.kids u hu _ (ak h2)
 have st:=AD x3 x2 j h1 (by omega)
 have su:=AD y3 y2 j h2 (by omega)
 rw[h.ER kt,h.ER ku,tV (h.sorted _ kt),tV (h.sorted _ ku),st,su]
theorem ql.KX{t:Term}(ht:t∈numsOf s ab):(numsOf s ab).getD (aG (numsOf s ab) t) aM=t:=by
 have _:=h.Ju
 rw[getD_at (bA ht)]
 exact(bH.1 (jt ht)).2
theorem ql.Bc{t:Term}(ht:t∈numsOf s ab):Q6 s ab t=(yy s ab).getD (aG (numsOf s ab) t) (whole 0):=by
 have _:=h.Ju
 have:=cV.2 ht
 rw[Q6,iJ,if_neg (by omega)]
theorem ql.Cj{t:Term}(ht:t∉numsOf s ab):Q6 s ab t=whole (cl (EB ab) (aG (aw ab) t)):=by
 have _:=h.Ju
 have:bK (numsOf s ab) t<0:=by
  rcases Int.lt_or_le (bK (numsOf s ab) t) 0 with h1|h1
  ·exact h1
  ·exact absurd (cV.1 h1) ht
 rw[Q6,iJ,if_pos this]
theorem ql.Ry(i:Nat):bX ((yy s ab).getD i (whole 0))=true:=by
 rcases Nat.lt_or_ge i (yy s ab).length with h1|h1
 ·rw[getD_at h1]
  exact h.vok _ (ak h1)
 ·rw[List.getD_eq_getElem?_getD,List.getElem?_eq_none h1]
  exact rX (by omega) (by omega)
theorem ql.one{t u:Term}(ht:t∈aw ab)(hu:u∈aw ab)(hk:t∈numsOf s ab↔u∈numsOf s ab)(hv:Q6 s ab t=Q6 s ab u):cl (EB ab) (aG (aw ab) t)=cl (EB ab) (aG (aw ab) u):=by
 rcases aa (t∈numsOf s ab) with hn|hn
 ·have hn':=hk.1 hn
  rw[h.Bc hn,h.Bc hn'] at hv
  have:=h.Yr (bA hn) (bA hn') (by rw[Ch,Ch,hv])
  rwa [h.KX hn,h.KX hn'] at this
 ·have hn':u∉numsOf s ab:=fun x=>hn (hk.2 x)
  rw[h.Cj hn,h.Cj hn'] at hv
  have:=congrArg Rat.N hv
  simp only[Ra] at this
  omega
theorem ql.val{t u:Term}(hk:t∈numsOf s ab↔u∈numsOf s ab)(hc:cl (EB ab) (aG (aw ab) t)=cl (EB ab) (aG (aw ab) u)):Q6 s ab t=Q6 s ab u:=by
 rcases aa (t∈numsOf s ab) with hn|hn
 ·have hn':=hk.1 hn
  have:=h.W8 (bA hn) (bA hn') (by rwa [h.KX hn,h.KX hn'])
  rw[h.Bc hn,h.Bc hn']
  exact ZD (h.Ry _) (h.Ry _) this
 ·have hn':u∉numsOf s ab:=fun x=>hn (hk.2 x)
  rw[h.Cj hn,h.Cj hn',hc]
omit h in
theorem CD{af:List Term}{c:List Nat}:∀{xs ys:List Term},xs.length=ys.length→(∀(j:Nat)(h1:j<xs.length)(h2:j<ys.length),cl c (aG af xs[j])=cl c (aG af ys[j]))→ly af c xs ys=true
 | [],[],_,_=>rfl
 | [],_::_,h,_=>by simp at h
 | _::_,[],h,_=>by simp at h
 | x::xs,y::ys,hl,hx=>by
   rw[ly,al]
   exact⟨decide_eq_true (hx 0 (by simp) (by simp)),CD (by simpa using hl) fun j h1 h2=>hx (j+1) (by simpa using h1) (by simpa using h2)⟩
theorem ql.abX{t u:Term}(ht:t∈aw ab)(hu:u∈aw ab)(hn:t.name=u.name)(hk:t.kids.map (Q6 s ab)=u.kids.map (Q6 s ab)):Q6 s ab t=Q6 s ab u:=by
 have hl:t.kids.length=u.kids.length:=by simpa using congrArg List.length hk
 have hks:∀(j:Nat)(h1:j<t.kids.length)(h2:j<u.kids.length),cl (EB ab) (aG (aw ab) t.kids[j])=cl (EB ab) (aG (aw ab) u.kids[j]):=fun j h1 h2=>by
  refine h.one (h.xd.kids t ht _ (ak h1)) (h.xd.kids u hu _ (ak h2)) (h.TM ht hu hn j h1 h2) ?_
  have:=congrArg (fun l:List Rat=>l[j]?) hk
  simpa[h1,h2] using this
 refine h.val (h.U6 ht hu hn) ?_
 rcases aa (t.kids=[]) with h0|h0
 ·have h0':u.kids=[]:=List.eq_nil_of_length_eq_zero (by rw[←hl,h0];rfl)
  have e:t=u:=by
   obtain⟨a,b⟩:=t
   obtain⟨c,d⟩:=u
   simp only[Term.name,Term.kids] at hn h0 h0'
   rw[hn,h0,h0']
  rw[e]
 ·have hpos:0<t.kids.length:=List.length_pos_iff.2 h0
  have pt:=bA ht
  have pu:=bA hu
  have gt:(aw ab).getD (aG (aw ab) t) aM=t:=by rw[getD_at pt];exact(bH.1 (jt ht)).2
  have gu:(aw ab).getD (aG (aw ab) u) aM=u:=by rw[getD_at pu];exact(bH.1 (jt hu)).2
  have hd:=N3 (aw ab) (aZ ab)
  rcases eQ (aG (aw ab) t) (aG (aw ab) u) with h1|h1|h1
  ·refine zk hd h1 pu ?_
   rw[alike,gt,gu,al,al]
   exact⟨decide_eq_true hpos,decide_eq_true hn,CD hl hks⟩
  ·rw[h1]
  ·refine(zk hd h1 pt ?_).symm
   rw[alike,gt,gu,al,al]
   exact⟨decide_eq_true (by omega),decide_eq_true hn.symm,CD hl.symm fun j a b=>(hks j b a).symm⟩
end
section
variable{s:dK}{ab:List bm}(h:ql s ab)
include h
theorem ql.bound:∀x∈EB ab,x≤1000:=h.xd.K3
theorem ql.value:∀(t:Term),t∈aw ab→value ⟨hJ (aw ab) (numsOf s ab) (EB ab) (yy s ab)⟩ t=Q6 s ab t:=
 Term.ind fun n ks ih ht=>by
  have hks:values ⟨hJ (aw ab) (numsOf s ab) (EB ab) (yy s ab)⟩ ks=ks.map (Q6 s ab):=by
   rw[pK]
   exact List.map_congr_left fun k hk=>ih k hk (h.xd.kids _ ht k hk)
  rw[Go.Mod.value,hks]
  obtain⟨i1,i2⟩:=MH (g:=iB (aw ab) (numsOf s ab) (EB ab) (yy s ab)) (fun t=>rU h.bound h.vok) (aw ab) [] [] (by simp) (by simp)
  simp only[List.nil_append] at i1 i2
  refine Tq ?_ ?_
  ·obtain⟨r,hr,e1,e2⟩:=i2 _ ht
   exact⟨r,hr,e1,e2⟩
  ·intro r hr e1 e2
   obtain⟨u,hu,rfl⟩:=i1 r hr
   exact h.abX hu ht e1 e2
end
def Ends(s:dK)(ab:List bm)(m:Model):Prop:=∃more,aw (ab++more)=aw ab∧numsOf s (ab++more)=numsOf s ab∧ql s (ab++more) ∧
 m=⟨hJ (aw (ab++more)) (numsOf s (ab++more)) (EB (ab++more)) (yy s (ab++more))⟩
def aby(s:dK)(m:Model)(nums:List Term):List Rat:=(bx 4).map fun i=>if i<nums.length then value m (nums.getD i aM) else whole 0
end Go.Mod
