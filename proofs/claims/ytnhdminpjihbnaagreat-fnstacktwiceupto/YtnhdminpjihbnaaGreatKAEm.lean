/-
  Plain laws on rational numbers as what they are: sums, products and order of the exact ones; what a constraint tells of an assignment. No program is walked here.
-/
import Derived.Test.YtnhdminpjihbnaaGreatKAEl
set_option linter.unusedVariables false
set_option linter.unusedSimpArgs false
open Bool renaming and_eq_true→ab,false_eq_true→aw,true_and→aN,not_false→iO,and_true→iP,not_eq_true'→mF
open Classical renaming em→aa
open Int renaming gcd→dK
open List renaming getElem_mem→ah,mem_append→aM,mem_cons_of_mem→bf,mem_singleton→bx,getElem?_eq_some_iff→bP,range→cK,mem_append_left→dH
open Nat renaming lt_trichotomy→fg
namespace Go.Mod
open Go.Eng
set_option maxRecDepth 100000
abbrev QQ:=_root_.Rat
def qv(r:Rat):QQ:=(r.N:QQ) / (r.D:QQ)
theorem abT{d:Int}(h:0<d):(0:QQ)<(d:QQ):=Rat.intCast_pos.2 h
theorem qne{d:Int}(h:0<d):(d:QQ)≠0:=fun e=>by have:=abT h;rw[e] at this;exact absurd this (by decide)
theorem aii{n d m e:Int}(hd:0<d)(he:0<e):(n:QQ) / d=(m:QQ) / e↔n*e=m*d:=by
 have h1:=qne hd;have h2:=qne he;constructor;intro h;have h3:(n:QQ) / d*d*e=(m:QQ) / e*e*d:=by rw[h];grind
 rw[Rat.div_mul_cancel h1,Rat.div_mul_cancel h2] at h3;rw[←Rat.intCast_mul,←Rat.intCast_mul] at h3;exact Rat.intCast_inj.1 h3;intro h;have h3:(n:QQ)*e=(m:QQ)*d:=by rw[←Rat.intCast_mul,←Rat.intCast_mul,h]
 have h4:(n:QQ) / d*d=n:=Rat.div_mul_cancel h1;have h5:(m:QQ) / e*e=m:=Rat.div_mul_cancel h2;generalize (n:QQ) / d=x at *;generalize (m:QQ) / e=y at *;have h6:x*(d*e)=y*(d*e):=by grind
 have h7:x*(d*e) / (d*e)=y*(d*e) / (d*e):=by rw[h6]
 have h8:(d:QQ)*e≠0:=fun e0=>by have:=Rat.mul_pos (abT hd) (abT he);rw[e0] at this;exact absurd this (by decide)
 rwa [Rat.mul_div_cancel h8,Rat.mul_div_cancel h8] at h7
theorem aj8{n d m e:Int}(hd:0<d)(he:0<e):(n:QQ) / d<(m:QQ) / e↔n*e<m*d:=by
 have h1:=abT hd;have h2:=abT he;have h4:(n:QQ) / d*d=n:=Rat.div_mul_cancel (qne hd);have h5:(m:QQ) / e*e=m:=Rat.div_mul_cancel (qne he);have h6:(0:QQ)<d*e:=Rat.mul_pos h1 h2;rw[←Rat.intCast_lt_intCast,Rat.intCast_mul,Rat.intCast_mul];generalize (n:QQ) / d=x at *;generalize (m:QQ) / e=y at *;rw[←Rat.mul_lt_mul_right h6,←h4,←h5];have e1:x*d*e=x*(d*e):=by grind
 have e2:y*e*d=y*(d*e):=by grind
 rw[e1,e2]
theorem okD{a:Rat}(h:eC a=true):0<a.D:=by have:=(xW.1 h).2.1.1;omega
theorem YX{a b:Rat}(ha:eC a=true)(hb:eC b=true):gW a b=true↔qv a<qv b:=by rw[lD ha hb,qv,qv,aj8 (okD ha) (okD hb)]
theorem aez{a b:Rat}(ha:eC a=true)(hb:eC b=true)(h:qv a=qv b):a=b:=by rcases aa (a=b) with e|e;exact e;rcases CZ ha hb e with h1|h1;have:=(YX ha hb).1 h1;rw[h] at this;exact absurd this (Rat.lt_irrefl);have:=(YX hb ha).1 h1;rw[h] at this;exact absurd this (Rat.lt_irrefl)
theorem AH(n:Int):qv (whole n)=n:=by have:(n:QQ) / ((1:Int):QQ)*((1:Int):QQ)=n:=Rat.div_mul_cancel (qne oM);rw[Rat.intCast_one,Rat.mul_one] at this;exact this
theorem OC{n d:Int}(hd:0<d)(h:(nw n d).2=true):qv (nw n d).1=(n:QQ) / d:=by
 rw[L3 oM] at h⊢;split at h;rename_i dL;rw[if_pos dL];have hg:0<(dK n d:Int):=by have:=Int.gcd_pos_of_ne_zero_right n (b:=d) oM;omega
 have h1:n.tdiv (dK n d)*(dK n d:Int)=n:=Int.tdiv_mul_cancel (Int.gcd_dvd_left ..);have h2:d.tdiv (dK n d)*(dK n d:Int)=d:=Int.tdiv_mul_cancel (Int.gcd_dvd_right ..);have hD:=okD dL;simp only at hD;refine(aii hD hd).2 ?_;generalize n.tdiv (dK n d)=x at *;generalize d.tdiv (dK n d)=y at *;rw[←h1,←h2];grind;cases h
theorem aiS{n d m e:Int}(hd:0<d)(he:0<e):(n:QQ) / d+(m:QQ) / e=((n*e+m*d:Int):QQ) / ((d*e:Int):QQ):=by
 have h4:(n:QQ) / d*d=n:=Rat.div_mul_cancel (qne hd);have h5:(m:QQ) / e*e=m:=Rat.div_mul_cancel (qne he);have h8:=qne (Int.mul_pos hd he);have h9:((n:QQ) / d+(m:QQ) / e)*((d*e:Int):QQ)=((n*e+m*d:Int):QQ):=by rw[Rat.intCast_mul,Rat.intCast_add,Rat.intCast_mul,Rat.intCast_mul];generalize (n:QQ) / d=x at *;generalize (m:QQ) / e=y at *;rw[←h4,←h5];grind
 rw[←h9,Rat.mul_div_cancel h8]
theorem ajt{n d m e:Int}(hd:0<d)(he:0<e):(n:QQ) / d*((m:QQ) / e)=((n*m:Int):QQ) / ((d*e:Int):QQ):=by
 have h4:(n:QQ) / d*d=n:=Rat.div_mul_cancel (qne hd);have h5:(m:QQ) / e*e=m:=Rat.div_mul_cancel (qne he);have h8:=qne (Int.mul_pos hd he);have h9:((n:QQ) / d*((m:QQ) / e))*((d*e:Int):QQ)=((n*m:Int):QQ):=by rw[Rat.intCast_mul,Rat.intCast_mul];generalize (n:QQ) / d=x at *;generalize (m:QQ) / e=y at *;rw[←h4,←h5];grind
 rw[←h9,Rat.mul_div_cancel h8]
theorem ahj{a b:Rat}(h:(ml a b).2=true):qv (ml a b).1=qv a+qv b∧eC (ml a b).1=true:=by refine⟨?_,Z0 h⟩;unfold ml at h⊢;split at h;rename_i dL;simp only[ab] at dL;have hA:=okD dL.1;have hB:=okD dL.2;rw[if_pos (by simp[dL]),OC (Int.mul_pos hA hB) h,qv,qv,aiS hA hB];cases h
theorem ahP{a b:Rat}(h:(nz a b).2=true):qv (nz a b).1=qv a*qv b∧eC (nz a b).1=true:=by unfold nz at h⊢;split at h;rename_i dL;simp only[ab] at dL;have hA:=okD dL.1;have hB:=okD dL.2;rw[if_pos (by simp[dL])];refine⟨?_,O9 h⟩;rw[OC (Int.mul_pos hA hB) h,qv,qv,ajt hA hB];cases h
theorem Y1{s x:Rat}{c:Int}(h:(plus s c x).2=true):qv (plus s c x).1=qv s+c*qv x∧eC (plus s c x).1=true:=by unfold plus at h⊢;split at h;rename_i hm;rw[if_pos hm];have h1:=ahP hm;have h2:=ahj h;rw[h1.1,AH] at h2;exact h2;cases h
def dot:List Int→List Rat→QQ
 | c::cs,x::xs=>c*qv x+dot cs xs
 | _,_=>0
theorem KR:∀{cs:List Int}{xs:List Rat}{s r:Rat},re cs xs s=some r→eC s=true→qv r=qv s+dot cs xs∧eC r=true
 | [],xs,s,r,h,hs=>by rw[L0] at h;cases h;have e:dot [] xs=0:=(by unfold dot;rfl);exact⟨by rw[e];grind,hs⟩
 | c::cs,[],s,r,h,hs=>by have e0:re (c::cs) [] s=some s:=(by unfold re;rfl);rw[e0] at h;cases h;have e:dot (c::cs) []=0:=(by unfold dot;rfl);exact⟨by rw[e];grind,hs⟩
 | c::cs,x::xs,s,r,h,hs=>by rw[re] at h;split at h;rename_i hp;have h1:=Y1 hp;have h2:=KR h h1.2;exact⟨by rw[h2.1,h1.1,dot];grind,h2.2⟩;cases h
theorem YR{a:Rat}{b:Int}{st:Bool}(ha:eC a=true)(hb:-1000000000≤b∧b≤1000000000):below a b st=true↔(if st then qv a<b else qv a≤b):=by
 have hw:=xV hb.1 hb.2;unfold below;cases st with
 | true=>simp only[if_true];rw[YX ha hw,AH]
 | false=>simp only[aw,if_false,mF];have:=YX hw ha;rw[AH] at this;rw[←Bool.not_eq_true,this,Rat.not_lt]
def gZ(l:mM)(aV:List Rat):Prop:=if l.cz then dot l.bw aV<l.bJ else dot l.bw aV≤l.bJ
theorem Uz{l:mM}(h:jz l=true):-1000000≤l.bJ∧l.bJ≤1000000:=by simp only[jz,zq,c8,ab,decide_eq_true_eq] at h;exact h.2.2
theorem TE{l:mM}{aV:List Rat}(h:zW l aV=some true):gZ l aV:=by
 unfold zW at h;split at h
 ·rename_i dL;simp only[ab] at dL;cases hs:re l.bw aV (whole 0) with
  | none=>rw[hs] at h;cases h
  | some r=>
    rw[hs] at h
    have h1:=KR hs (xV oM oM)
    have hb:=Uz dL.1
    have h2:=(YR (st:=l.cz) h1.2 ⟨oM,oM⟩).1 (Option.some.inj h)
    rw[h1.1,AH] at h2
    unfold gZ
    have e:((0:Int):QQ)+dot l.bw aV=dot l.bw aV:=by grind
    rwa [e] at h2
 cases h
theorem RA{au:List mM}{aV:List Rat}(h:rG au aV=true):∀l∈au,gZ l aV:=fun l hl=>by simp only[rG,ab,List.all_eq_true,decide_eq_true_eq] at h;exact TE (h.2.2 l hl)
theorem MP{α:Type}{an:List az}{f:Nat→α}:∀{dx:List lH}{out:List Nat},out.length=an.length→(∀i k,i<an.length→k<an.length→cl out i=cl out k→f i=f k) →
 (∀e∈dx,e.A∈an→e.B∈an→f (a8 an e.A)=f (a8 an e.B))→∀i k,i<an.length→k<an.length→cl (dx.foldl (iJ an) out) i=cl (dx.foldl (iJ an) out) k→f i=f k
 | [],_,_,h,_,i,k,hi,hk,he=>h i k hi hk he
 | e::es,out,hl,h,hE,i,k,hi,hk,he=>by rw[List.foldl_cons] at he;refine MP (dx:=es) (out:=iJ an out e) (by unfold iJ;split<;>simp[hl]) ?_ (fun x hx=>hE x (bf _ hx)) i k hi hk he;intro i k hi hk hik;unfold iJ at hik;rcases aa (dN an e.A<0∨dN an e.B<0) with hn|hn;rw[if_pos hn] at hik;exact h i k hi hk hik;rw[if_neg hn] at hik;have hA:e.A∈an:=gm.1 oM;have hB:e.B∈an:=gm.1 oM;have pA:=df hA;have pB:=df hB;have hab:=hE e (by simp) hA hB;rw[Ec oM,Ec oM] at hik;rcases aa (cl out i=cl out (a8 an e.A)) with h1|h1;rcases aa (cl out k=cl out (a8 an e.A)) with h2|h2;exact h i k hi hk (h1.trans h2.symm);rw[if_pos h1,if_neg h2] at hik;rw[h i _ hi pA h1,hab,h _ k pB hk hik];rcases aa (cl out k=cl out (a8 an e.A)) with h2|h2;rw[if_neg h1,if_pos h2] at hik;rw[h i _ hi pB hik,←hab,h _ k pA hk h2.symm];rw[if_neg h1,if_neg h2] at hik;exact h i k hi hk hik
theorem Ti{α:Type}{an:List az}{af:List cC}{f:Nat→α}(hE:∀e∈cG af,e.A∈an→e.B∈an→f (a8 an e.A)=f (a8 an e.B)){i k:Nat}(hi:i<an.length)(hk:k<an.length)(h:iH an af i k=true):f i=f k:=by refine MP (out:=cK an.length) (by simp) (fun i k hi hk he=>?_) hE i k hi hk (of_decide_eq_true h);rw[nN (by simpa using hi),nN (by simpa using hk)] at he;simp only[List.getElem_range] at he;rw[he]
theorem PD:∀(cs:List Int)(aV:List Rat)(i:Nat)(v:Int),cs.length=aV.length→i<cs.length→dot (wY cs i v) aV=dot cs aV+v*qv (aV.getD i (whole 0))
 | [],_,i,_,_,h=>by simp at h
 | c::cs,[],_,_,h,_=>by simp at h
 | c::cs,x::xs,0,v,h,hi=>by simp only[wY,Int.natCast_zero,if_true,dot,List.getD_cons_zero,Rat.intCast_add];grind
 | c::cs,x::xs,i+1,v,h,hi=>by have h1:¬ ((i+1:Nat):Int)=0:=oM;have h2:((i+1:Nat):Int)-1=i:=oM;simp only[wY,if_neg h1,h2,dot,List.getD_cons_succ];rw[PD cs xs i v (by simpa using h) (by simpa using hi)];grind
def yh(an:List az)(aV:List Rat):List az→List Int→QQ
 | t::ts,n::ns=>n*qv (aV.getD (a8 an t) (whole 0))+yh an aV ts ns
 | _,_=>0
theorem OJ{an:List az}{aV:List Rat}:∀(ts:List az)(ns cs:List Int),(∀t∈ts,t∈an)→an.length≤cs.length→cs.length=aV.length→dot (o0 an ts ns cs) aV=dot cs aV+yh an aV ts ns
 | [],ns,cs,_,_,_=>by have e1:o0 an [] ns cs=cs:=(by unfold o0;rfl);have e2:yh an aV [] ns=0:=(by unfold yh;rfl);rw[e1,e2];grind
 | t::ts,[],cs,_,_,_=>by have e1:o0 an (t::ts) [] cs=cs:=(by unfold o0;rfl);have e2:yh an aV (t::ts) []=0:=(by unfold yh;rfl);rw[e1,e2];grind
 | t::ts,n::ns,cs,ht,hn,hc=>by have hm:=ht t (by simp);have hp:=df hm;rw[o0,fP hm,OJ ts ns _ (fun x hx=>ht x (by simp[hx])) (by rw[Ct];exact hn) (by rw[Ct];exact hc),PD cs aV _ n hc oM,yh];grind
theorem UM:∀(aV:List Rat),dot [0,0,0,0] aV=0
 | []=>by unfold dot;rfl
 | [a]=>by simp only[dot];grind
 | [a,b]=>by simp only[dot];grind
 | [a,b,c]=>by simp only[dot];grind
 | a::b::c::d::r=>by simp only[dot];grind
theorem tl{an ts:List az}{ns:List Int}{b:Int}{st:Bool}{aV:List Rat}(h4:an.length≤4)(hv:aV.length=4)(ht:∀t∈ts,t∈an):gZ (vI an ts ns b st) aV↔(if st then yh an aV ts ns<b else yh an aV ts ns≤b):=by
 unfold gZ vI;simp only;rw[OJ ts ns [0,0,0,0] ht (by simpa using h4) (by simp[hv]),UM];have e:(0:QQ)+yh an aV ts ns=yh an aV ts ns:=by grind
 rw[e]
def ED(aV:List Rat)(i:Nat):QQ:=qv (aV.getD i (whole 0))
theorem MN{an:List az}{aV:List Rat}{a b:az}{m n:Int}:yh an aV [a,b] [m,n]=m*ED aV (a8 an a)+n*ED aV (a8 an b):=by
 have e:yh an aV [] []=0:=by unfold yh;rfl
 rw[yh,yh,e,ED,ED];grind
theorem agp{au:List mM}(h:(dX au).code=0):rG au (dX au).aV=true:=by
 have hend:∀s0 s1 s2 s3 aK,(mO au s0 s1 s2 s3 aK).code=0→rG au (mO au s0 s1 s2 s3 aK).aV=true:=fun s0 s1 s2 s3 aK h=>by unfold mO at h⊢;split at h;split at h<;>simp at h;split at h;simp at h;split at h;rename_i hf;rw[if_pos hf];exact hf;simp at h
 unfold dX at h⊢;split at h;rename_i hs;rw[if_pos hs];split at h;simp at h;split at h;simp at h;split at h;simp at h;split at h;simp at h;exact hend _ _ _ _ _ h;simp at h
theorem ET{aj:List az}:∀(f:Nat)(c:List Nat)(ao:List Step),c.sum≤f→c.length=aj.length→mE aj (nU aj f c ao).1=none
 | f,c,ao,hs,hc=>by
  cases hn:mE aj c with
  | none=>rw[Ez hn];exact hn
  | some p=>obtain⟨f',rfl,h1,h2⟩:=E3 (ao:=ao) hs hc hn;rw[h1];exact ET f' _ _ h2 (by rw[j8];exact hc)
theorem SW(aj:List az)(dx:List lH):mE aj (closed aj dx).1=none:=
 ET _ _ _ (Nat.le_refl _) (by rw[given,w7,List.length_range])
theorem Dp{aj:List az}{c:List Nat}(h:mE aj c=none){i k:Nat}(h1:i<k)(h2:k<aj.length)(ha:alike aj c i k=true):cl c i=cl c k:=by have:=List.find?_eq_none.1 h (i,k) (C1.2 ⟨h1,Nat.zero_le _,h2⟩);simp only[vp,ha,iP,decide_eq_true_eq,ne_eq,Decidable.not_not] at this;exact this
structure tt(s:eV)(af:List cC):Prop where
 Bw:kO s af
 sorted:∀t∈aQ af,(gJ s t).isSome=true
 OU:(dX (iL (aO s af) af)).code=0
 same:eW (aO s af).length (kR true (aQ af) (aO s af) (closed (aQ af) (cG af)).1 af)=none
 nC:eW (aO s af).length (kR false (aQ af) (aO s af) (closed (aQ af) (cG af)).1 af)=none
section
variable{s:eV}{af:List cC}(h:tt s af)
abbrev Cm(s:eV)(af:List cC):List Rat:=(dX (iL (aO s af) af)).aV
abbrev JK(af:List cC):List Nat:=(closed (aQ af) (cG af)).1
include h
theorem tt.v4:(Cm s af).length=4:=(LF h.OU).1
theorem tt.vok:∀x∈Cm s af,eC x=true:=(LF h.OU).2
theorem tt.holds:∀l∈af,∀x∈nd (aO s af) l,gZ x (Cm s af):=fun l hl x hx=>
 RA (agp h.OU) x (List.mem_flatMap.2 ⟨l,hl,hx⟩)
theorem tt.aiW{e:lH}(he:e∈cG af)(hA:e.A∈aO s af)(hB:e.B∈aO s af):ED (Cm s af) (a8 (aO s af) e.A)=ED (Cm s af) (a8 (aO s af) e.B):=by
 obtain⟨l,hl,h1,h2,rfl⟩:=HT.1 he;have hll:nd (aO s af) l=[vI (aO s af) [l.aY.A,l.aY.B] [1,-1] 0 false,vI (aO s af) [l.aY.A,l.aY.B] [-1,1] 0 false]:=by unfold nd;rw[if_neg oM,if_pos ⟨h2,gm.2 hA⟩]
 have ht:∀t∈[l.aY.A,l.aY.B],t∈aO s af:=by simp[hA,hB]
 have k1:=(tl h.Bw.n4 h.v4 ht).1 (h.holds l hl (vI (aO s af) [l.aY.A,l.aY.B] [1,-1] 0 false) (by rw[hll];simp));have k2:=(tl h.Bw.n4 h.v4 ht).1 (h.holds l hl (vI (aO s af) [l.aY.A,l.aY.B] [-1,1] 0 false) (by rw[hll];simp));rw[MN] at k1 k2;simp only[aw,if_false] at k1 k2;show ED (Cm s af) (a8 (aO s af) l.aY.A)=ED (Cm s af) (a8 (aO s af) l.aY.B);generalize ED (Cm s af) (a8 (aO s af) l.aY.A)=x at *;generalize ED (Cm s af) (a8 (aO s af) l.aY.B)=y at *;grind
theorem tt.abD{i k:Nat}(hi:i<(aO s af).length)(hk:k<(aO s af).length)(hs:jr (aO s af) af i k=true):ED (Cm s af) i<ED (Cm s af) k:=by
 obtain⟨l,hl,h1⟩:=List.any_eq_true.1 hs;simp only[ab,mF,decide_eq_true_eq] at h1;rw[ji hi,ji hk] at h1;have hmi:=ah hi;have hmk:=ah hk;have pi:a8 (aO s af) (aO s af)[i]=i:=by rw[a8,r9 h.Bw.Bp hi];rfl
 have pk:a8 (aO s af) (aO s af)[k]=k:=by rw[a8,r9 h.Bw.Bp hk];rfl
 have hkd:l.aY.kind=2:=by rw[h1.2];unfold gC;split<;>rfl
 have hll:nd (aO s af) l=[vI (aO s af) l.aY.an l.aY.bt l.aY.bJ l.aY.cz]:=by unfold nd;rw[if_pos hkd,h1.1];rfl
 have k0:=h.holds l hl _ (by rw[hll];exact bx.2 rfl);rw[h1.2] at k0;generalize (aO s af)[i]=a at *;generalize (aO s af)[k]=b at *;unfold gC at k0;split at k0;have k1:=(tl h.Bw.n4 h.v4 (by simp[hmi,hmk])).1 k0;rw[MN,pi,pk] at k1;simp only[if_true] at k1;generalize ED (Cm s af) i=x at *;generalize ED (Cm s af) k=y at *;grind;have k1:=(tl h.Bw.n4 h.v4 (by simp[hmi,hmk])).1 k0;rw[MN,pi,pk] at k1;simp only[if_true] at k1;generalize ED (Cm s af) i=x at *;generalize ED (Cm s af) k=y at *;grind
theorem tt.ZY{i k:Nat}(hi:i<(aO s af).length)(hk:k<(aO s af).length)(hl:iH (aO s af) af i k=true):ED (Cm s af) i=ED (Cm s af) k:=
 Ti (f:=ED (Cm s af)) (fun _ he hA hB=>h.aiW he hA hB) hi hk hl
theorem tt.aec{i k:Nat}(hi:i<(aO s af).length)(hk:k<(aO s af).length)(hl:iH (aO s af) af i k=true):cl (JK af) (a8 (aQ af) ((aO s af).getD i aX))=cl (JK af) (a8 (aQ af) ((aO s af).getD k aX)):=by refine Ti (f:=fun i=>cl (JK af) (a8 (aQ af) ((aO s af).getD i aX))) (fun e he hA hB=>?_) hi hk hl;have:=V0 (aj:=aQ af) h.Bw.OM he;rw[ji (df hA),ji (df hB)];have g:∀{t:az}(ht:t∈aO s af),(aO s af)[a8 (aO s af) t]'(df ht)=t:=fun ht=>(bP.1 (lB ht)).2;rw[g hA,g hB];exact of_decide_eq_true this
theorem tt.aeZ{i k:Nat}(hi:i<(aO s af).length)(hk:k<(aO s af).length)(hs:cl (JK af) (a8 (aQ af) ((aO s af).getD i aX))=cl (JK af) (a8 (aQ af) ((aO s af).getD k aX))):ED (Cm s af) i=ED (Cm s af) k:=by
 have key:∀i k,i<k→k<(aO s af).length→cl (JK af) (a8 (aQ af) ((aO s af).getD i aX))=cl (JK af) (a8 (aQ af) ((aO s af).getD k aX))→ED (Cm s af) i=ED (Cm s af) k:=fun i k h1 h2 hs=>by have h3:=AE h.same h1 h2;have hsm:lV (aQ af) (JK af) ((aO s af).getD i aX) ((aO s af).getD k aX)=true:=decide_eq_true hs;simp only[kR,hsm,if_true,iP,Bool.not_eq_false'] at h3;exact h.ZY oM h2 h3
 rcases fg i k with h1|rfl|h1;exact key i k h1 hk hs;rfl;exact(key k i h1 hi hs.symm).symm
theorem tt.aeT{i k:Nat}(hi:i<(aO s af).length)(hk:k<(aO s af).length)(hs:ED (Cm s af) i=ED (Cm s af) k):cl (JK af) (a8 (aQ af) ((aO s af).getD i aX))=cl (JK af) (a8 (aQ af) ((aO s af).getD k aX)):=by
 have key:∀i k,i<k→k<(aO s af).length→ED (Cm s af) i=ED (Cm s af) k→cl (JK af) (a8 (aQ af) ((aO s af).getD i aX))=cl (JK af) (a8 (aQ af) ((aO s af).getD k aX)):=fun i k h1 h2 hs=>by
  have h3:=AE h.nC h1 h2;simp only[kR,aw,if_false] at h3;cases hl:iH (aO s af) af i k with
  | true=>exact h.aec oM h2 hl
  | false=>
   rw[hl] at h3;simp only[iO,aN] at h3;cases ha:jr (aO s af) af i k with
   | true=>have:=h.abD oM h2 ha;rw[hs] at this;exact absurd this Rat.lt_irrefl
   | false=>rw[ha] at h3;simp only[iO,aN,Bool.not_eq_false'] at h3;have:=h.abD h2 oM h3;rw[hs] at this;exact absurd this Rat.lt_irrefl
 rcases fg i k with h1|rfl|h1;exact key i k h1 hk hs;rfl;exact(key k i h1 hi hs.symm).symm
end
theorem El{s:eV}:∀{ks:List az}{as:List Int},jj s ks as=true→as.length=ks.length→∀(j:Nat)(h1:j<ks.length)(h2:j<as.length),ir s ks[j]=some as[j]
 | [],_,_,_,j,h1,_=>by simp at h1
 | k::ks,[],_,h,_,_,_=>by simp at h
 | k::ks,a::as,h,hl,0,_,_=>by simp only[jj,ab,decide_eq_true_eq] at h;exact h.1
 | k::ks,a::as,h,hl,j+1,h1,h2=>by simp only[jj,ab,decide_eq_true_eq] at h;simpa using El h.2 (by simpa using hl) j (by simpa using h1) (by simpa using h2)
theorem VE{s:eV}{t:az}{r:Int}(h:ir s t=some r):∃x,symbol s t.name=some x∧x.args.length=t.ar.length∧jj s t.ar x.args=true∧x.sort=r:=by obtain⟨n,ks⟩:=t;rw[ir] at h;split at h;cases h;rename_i x hx;split at h;rename_i hc;simp only[ab,decide_eq_true_eq] at hc;exact⟨x,hx,hc.1,hc.2,Option.some.inj h⟩;cases h
theorem xJ{s:eV}{t:az}(h:(gJ s t).isSome=true):gJ s t=ir s t:=by unfold gJ at h⊢;split;rfl;rename_i hc;rw[if_neg hc] at h;cases h
theorem WL{rs:List Row}{t r:Row}(h:r∈putRow rs t):r∈rs∨r=t:=by rw[vH] at h;split at h;exact .inl h;rcases aM.1 h with h|h;exact .inl (List.mem_of_mem_take h);rcases List.mem_cons.1 h with h|h;exact .inr h;exact .inl (List.mem_of_mem_drop h)
theorem TM{rs:List Row}{t r:Row}(h:r∈rs):r∈putRow rs t:=by rw[vH];split;exact h;rw[←List.take_append_drop (cut rs t) rs] at h;rcases aM.1 h with h|h;exact dH _ h;exact List.mem_append_right _ (bf _ h)
theorem Wm{rs:List Row}{t:Row}(hr:∀r∈rs,fN r.args=true)(ht:fN t.args=true):∃r∈putRow rs t,r.name=t.name∧r.args=t.args:=by rw[vH];split;rename_i hf;unfold found at hf;split at hf;rename_i r hx;have hm:=List.mem_of_getElem? hx;exact⟨r,hm,(wG (hr r hm) ht).1 (of_decide_eq_true hf)⟩;cases hf;exact⟨t,by simp,rfl,rfl⟩
theorem SP{g:az→Row}(hg:∀t,fN (g t).args=true):∀(ts:List az)(rs:List Row)(done:List az),(∀r∈rs,∃u∈done,r=g u)→(∀t∈done,∃r∈rs,r.name=(g t).name∧r.args=(g t).args) →
 (∀r∈ts.foldl (fun aK t=>putRow aK (g t)) rs,∃u∈done++ts,r=g u)∧(∀t∈done++ts,∃r∈ts.foldl (fun aK t=>putRow aK (g t)) rs,r.name=(g t).name∧r.args=(g t).args)
 | [],rs,done,h1,h2=>by simpa using ⟨h1,h2⟩
 | t::ts,rs,done,h1,h2=>by
  have dL:∀r∈rs,fN r.args=true:=fun r hr=>by obtain⟨u,_,rfl⟩:=h1 r hr;exact hg u
  have:=SP hg ts (putRow rs (g t)) (done++[t]) (fun r hr=>by
   rcases WL hr with hr|hr
   ·obtain⟨u,hu,e⟩:=h1 r hr
    exact⟨u,dH _ hu,e⟩
   ·exact⟨t,by simp,hr⟩) (fun u hu=>by
   rcases aM.1 hu with hu|hu
   ·obtain⟨r,hr,e⟩:=h2 u hu
    exact⟨r,TM hr,e⟩
   ·rw[bx.1 hu]
    exact Wm dL (hg t))
  rw[List.append_assoc] at this;exact this
theorem Zc{aK:List Row}{n:p8}{as:List Rat}{v:Rat}(h1:∃r∈aK,r.name=n∧r.args=as)(h2:∀r∈aK,r.name=n→r.args=as→r.val=v):lookup aK n as=v:=by
 unfold lookup;obtain⟨r,hr,e⟩:=h1;cases hf:aK.find? (fun r=>decide (r.name=n∧r.args=as)) with
 | none=>have:=List.find?_eq_none.1 hf r hr;exact absurd (decide_eq_true e) this
 | some x=>have hx:=List.find?_some hf;have:=of_decide_eq_true hx;exact h2 x (List.mem_of_find?_eq_some hf) this.1 this.2
section
variable{s:eV}{af:List cC}(h:tt s af)
abbrev Ys(s:eV)(af:List cC)(t:az):Rat:=qc (aQ af) (aO s af) (JK af) (Cm s af) t
include h
theorem tt.sort{t:az}(ht:t∈aQ af):∃x,symbol s t.name=some x∧x.args.length=t.ar.length∧jj s t.ar x.args=true∧gJ s t=some x.sort:=by have h1:=h.sorted t ht;have h2:=xJ h1;obtain⟨r,hr⟩:=Option.isSome_iff_exists.1 h1;obtain⟨x,x1,x2,x3,x4⟩:=VE (h2▸hr);exact⟨x,x1,x2,x3,by rw[hr,x4]⟩
theorem tt.J6{t:az}(ht:t∈aQ af):t∈aO s af↔gJ s t=some 1:=by have _:=h.OU;rw[←MV,List.mem_filter];simp[ht,eQ]
theorem tt.abm{t u:az}(ht:t∈aQ af)(hu:u∈aQ af)(hn:t.name=u.name):t∈aO s af↔u∈aO s af:=by obtain⟨x,x1,_,_,x4⟩:=h.sort ht;obtain⟨y,y1,_,_,y4⟩:=h.sort hu;rw[hn,y1] at x1;obtain rfl:=Option.some.inj x1;rw[h.J6 ht,h.J6 hu,x4,y4]
theorem tt.aek{t u:az}(ht:t∈aQ af)(hu:u∈aQ af)(hn:t.name=u.name)(j:Nat)(h1:j<t.ar.length)(h2:j<u.ar.length):t.ar[j]∈aO s af↔u.ar[j]∈aO s af:=by obtain⟨x,x1,x2,x3,_⟩:=h.sort ht;obtain⟨y,y1,y2,y3,_⟩:=h.sort hu;rw[hn,y1] at x1;obtain rfl:=Option.some.inj x1;have kt:=h.Bw.ar t ht _ (ah h1);have ku:=h.Bw.ar u hu _ (ah h2);have st:=El x3 x2 j h1 oM;have su:=El y3 y2 j h2 oM;rw[h.J6 kt,h.J6 ku,xJ (h.sorted _ kt),xJ (h.sorted _ ku),st,su]
theorem tt.Qu{t:az}(ht:t∈aO s af):(aO s af).getD (a8 (aO s af) t) aX=t:=by have _:=h.OU;rw[ji (df ht)];exact(bP.1 (lB ht)).2
theorem tt.EV{t:az}(ht:t∈aO s af):Ys s af t=(Cm s af).getD (a8 (aO s af) t) (whole 0):=by have _:=h.OU;have:=gm.2 ht;rw[Ys,qc,if_neg oM]
theorem tt.Fi{t:az}(ht:t∉aO s af):Ys s af t=whole (cl (JK af) (a8 (aQ af) t)):=by
 have _:=h.OU;have:dN (aO s af) t<0:=by rcases Int.lt_or_le (dN (aO s af) t) 0 with h1|h1;exact h1;exact absurd (gm.1 h1) ht
 rw[Ys,qc,if_pos this]
theorem tt.Yr(i:Nat):eC ((Cm s af).getD i (whole 0))=true:=by rcases Nat.lt_or_ge i (Cm s af).length with h1|h1;rw[ji h1];exact h.vok _ (ah h1);rw[List.getD_eq_getElem?_getD,List.getElem?_eq_none h1];exact xV oM oM
theorem tt.one{t u:az}(ht:t∈aQ af)(hu:u∈aQ af)(hk:t∈aO s af↔u∈aO s af)(hv:Ys s af t=Ys s af u):cl (JK af) (a8 (aQ af) t)=cl (JK af) (a8 (aQ af) u):=by
 rcases aa (t∈aO s af) with hn|hn;have hn':=hk.1 hn;rw[h.EV hn,h.EV hn'] at hv;have:=h.aeT (df hn) (df hn') (by rw[ED,ED,hv])
 rwa [h.Qu hn,h.Qu hn'] at this;have hn':u∉aO s af:=fun x=>hn (hk.2 x);rw[h.Fi hn,h.Fi hn'] at hv;have:=congrArg Rat.N hv;simp only[Yc] at this;omega
theorem tt.val{t u:az}(hk:t∈aO s af↔u∈aO s af)(hc:cl (JK af) (a8 (aQ af) t)=cl (JK af) (a8 (aQ af) u)):Ys s af t=Ys s af u:=by rcases aa (t∈aO s af) with hn|hn;have hn':=hk.1 hn;have:=h.aeZ (df hn) (df hn') (by rwa [h.Qu hn,h.Qu hn']);rw[h.EV hn,h.EV hn'];exact aez (h.Yr _) (h.Yr _) this;have hn':u∉aO s af:=fun x=>hn (hk.2 x);rw[h.Fi hn,h.Fi hn',hc]
omit h in
theorem HQ{aj:List az}{c:List Nat}:∀{xs ys:List az},xs.length=ys.length→(∀(j:Nat)(h1:j<xs.length)(h2:j<ys.length),cl c (a8 aj xs[j])=cl c (a8 aj ys[j]))→oV aj c xs ys=true
 | [],[],_,_=>rfl
 | [],_::_,h,_=>by simp at h
 | _::_,[],h,_=>by simp at h
 | x::xs,y::ys,hl,hx=>by rw[oV,ab];exact⟨decide_eq_true (hx 0 (by simp) (by simp)),HQ (by simpa using hl) fun j h1 h2=>hx (j+1) (by simpa using h1) (by simpa using h2)⟩
theorem tt.aj6{t u:az}(ht:t∈aQ af)(hu:u∈aQ af)(hn:t.name=u.name)(hk:t.ar.map (Ys s af)=u.ar.map (Ys s af)):Ys s af t=Ys s af u:=by
 have hl:t.ar.length=u.ar.length:=by simpa using congrArg List.length hk
 have hks:∀(j:Nat)(h1:j<t.ar.length)(h2:j<u.ar.length),cl (JK af) (a8 (aQ af) t.ar[j])=cl (JK af) (a8 (aQ af) u.ar[j]):=fun j h1 h2=>by refine h.one (h.Bw.ar t ht _ (ah h1)) (h.Bw.ar u hu _ (ah h2)) (h.aek ht hu hn j h1 h2) ?_;have:=congrArg (fun l:List Rat=>l[j]?) hk;simpa[h1,h2] using this
 refine h.val (h.abm ht hu hn) ?_;rcases aa (t.ar=[]) with h0|h0;have h0':u.ar=[]:=List.eq_nil_of_length_eq_zero (by rw[←hl,h0];rfl);have e:t=u:=by obtain⟨a,b⟩:=t;obtain⟨c,d⟩:=u;simp only[az.name,az.ar] at hn h0 h0';rw[hn,h0,h0']
 rw[e];have hpos:0<t.ar.length:=List.length_pos_iff.2 h0;have pt:=df ht;have pu:=df hu;have gt:(aQ af).getD (a8 (aQ af) t) aX=t:=by rw[ji pt];exact(bP.1 (lB ht)).2
 have gu:(aQ af).getD (a8 (aQ af) u) aX=u:=by rw[ji pu];exact(bP.1 (lB hu)).2
 have hd:=SW (aQ af) (cG af);rcases fg (a8 (aQ af) t) (a8 (aQ af) u) with h1|h1|h1;refine Dp hd h1 pu ?_;rw[alike,gt,gu,ab,ab];exact⟨decide_eq_true hpos,decide_eq_true hn,HQ hl hks⟩;rw[h1];refine(Dp hd h1 pt ?_).symm;rw[alike,gt,gu,ab,ab];exact⟨decide_eq_true oM,decide_eq_true hn.symm,HQ hl.symm fun j a b=>(hks j b a).symm⟩
end
section
variable{s:eV}{af:List cC}(h:tt s af)
include h
theorem tt.bJ:∀x∈JK af,x≤1000:=h.Bw.Yb
theorem tt.value:∀(t:az),t∈aQ af→value ⟨mv (aQ af) (aO s af) (JK af) (Cm s af)⟩ t=Ys s af t:=
 az.ind fun n ks ih ht=>by have hks:values ⟨mv (aQ af) (aO s af) (JK af) (Cm s af)⟩ ks=ks.map (Ys s af):=(by rw[oU];exact List.map_congr_left fun k hk=>ih k hk (h.Bw.ar _ ht k hk));rw[Go.Mod.value,hks];obtain⟨i1,i2⟩:=SP (g:=nb (aQ af) (aO s af) (JK af) (Cm s af)) (fun t=>Lk h.bJ h.vok) (aQ af) [] [] (by simp) (by simp);simp only[List.nil_append] at i1 i2;refine Zc ?_ ?_;obtain⟨r,hr,e1,e2⟩:=i2 _ ht;exact⟨r,hr,e1,e2⟩;intro r hr e1 e2;obtain⟨u,hu,rfl⟩:=i1 r hr;exact h.aj6 hu ht e1 e2
end
def Ends(s:eV)(af:List cC)(m:dZ):Prop:=∃more,aQ (af++more)=aQ af∧aO s (af++more)=aO s af∧tt s (af++more) ∧
 m=⟨mv (aQ (af++more)) (aO s (af++more)) (JK (af++more)) (Cm s (af++more))⟩
def ajR(s:eV)(m:dZ)(an:List az):List Rat:=(cK 4).map fun i=>if i<an.length then value m (an.getD i aX) else whole 0
end Go.Mod
