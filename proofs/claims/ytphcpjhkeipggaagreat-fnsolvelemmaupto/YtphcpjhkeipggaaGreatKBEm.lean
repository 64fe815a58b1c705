/-
  Plain laws on rational numbers as what they are: sums, products and order of the exact ones; what a constraint tells of an assignment. No program is walked here.
-/
import Derived.Test.YtphcpjhkeipggaaGreatKBEl
set_option linter.unusedVariables false
set_option linter.unusedSimpArgs false
open Bool renaming and_eq_true→ah,false_eq_true→au,true_and→aA,not_false→gU,not_eq_true'→kO,and_true→lz
open Classical renaming em→aa
open Int renaming gcd→b9
open List renaming getElem_mem→aj,mem_append→aO,mem_cons_of_mem→bw,range→bK,getElem?_eq_some_iff→bV,mem_singleton→cO,mem_append_left→dI
open Nat renaming lt_trichotomy→fV
namespace Go.Mod
open Go.Eng
set_option maxRecDepth 100000
abbrev QQ:=_root_.Rat
def qv(r:Rat):QQ:=(r.N:QQ) / (r.D:QQ)
theorem ace{d:Int}(h:0<d):(0:QQ)<(d:QQ):=Rat.intCast_pos.2 h
theorem qne{d:Int}(h:0<d):(d:QQ)≠0:=fun e=>by have:=ace h;rw[e] at this;exact absurd this (by decide)
theorem ae9{n d m e:Int}(hd:0<d)(he:0<e):(n:QQ) / d=(m:QQ) / e↔n*e=m*d:=by
 have h1:=qne hd;have h2:=qne he;constructor;intro h;have h3:(n:QQ) / d*d*e=(m:QQ) / e*e*d:=by rw[h];grind
 rw[Rat.div_mul_cancel h1,Rat.div_mul_cancel h2] at h3;rw[←Rat.intCast_mul,←Rat.intCast_mul] at h3;exact Rat.intCast_inj.1 h3;intro h;have h3:(n:QQ)*e=(m:QQ)*d:=by rw[←Rat.intCast_mul,←Rat.intCast_mul,h]
 have h4:(n:QQ) / d*d=n:=Rat.div_mul_cancel h1;have h5:(m:QQ) / e*e=m:=Rat.div_mul_cancel h2;generalize (n:QQ) / d=x at *;generalize (m:QQ) / e=y at *;have h6:x*(d*e)=y*(d*e):=by grind
 have h7:x*(d*e) / (d*e)=y*(d*e) / (d*e):=by rw[h6]
 have h8:(d:QQ)*e≠0:=fun e0=>by have:=Rat.mul_pos (ace hd) (ace he);rw[e0] at this;exact absurd this (by decide)
 rwa [Rat.mul_div_cancel h8,Rat.mul_div_cancel h8] at h7
theorem ah4{n d m e:Int}(hd:0<d)(he:0<e):(n:QQ) / d<(m:QQ) / e↔n*e<m*d:=by
 have h1:=ace hd;have h2:=ace he;have h4:(n:QQ) / d*d=n:=Rat.div_mul_cancel (qne hd);have h5:(m:QQ) / e*e=m:=Rat.div_mul_cancel (qne he);have h6:(0:QQ)<d*e:=Rat.mul_pos h1 h2;rw[←Rat.intCast_lt_intCast,Rat.intCast_mul,Rat.intCast_mul];generalize (n:QQ) / d=x at *;generalize (m:QQ) / e=y at *;rw[←Rat.mul_lt_mul_right h6,←h4,←h5];have e1:x*d*e=x*(d*e):=by grind
 have e2:y*e*d=y*(d*e):=by grind
 rw[e1,e2]
theorem okD{a:Rat}(h:cP a=true):0<a.D:=by have:=(qw.1 h).2.1.1;omega
theorem WI{a b:Rat}(ha:cP a=true)(hb:cP b=true):eF a b=true↔qv a<qv b:=by rw[gP ha hb,qv,qv,ah4 (okD ha) (okD hb)]
theorem aaE{a b:Rat}(ha:cP a=true)(hb:cP b=true)(h:qv a=qv b):a=b:=by rcases aa (a=b) with e|e;exact e;rcases Cl ha hb e with h1|h1;have:=(WI ha hb).1 h1;rw[h] at this;exact absurd this (Rat.lt_irrefl);have:=(WI hb ha).1 h1;rw[h] at this;exact absurd this (Rat.lt_irrefl)
theorem Bc(n:Int):qv (whole n)=n:=by have:(n:QQ) / ((1:Int):QQ)*((1:Int):QQ)=n:=Rat.div_mul_cancel (qne oM);rw[Rat.intCast_one,Rat.mul_one] at this;exact this
theorem NP{n d:Int}(hd:0<d)(h:(jO n d).2=true):qv (jO n d).1=(n:QQ) / d:=by
 rw[Dg oM] at h⊢;split at h;rename_i fy;rw[if_pos fy];have hg:0<(b9 n d:Int):=by have:=Int.gcd_pos_of_ne_zero_right n (b:=d) oM;omega
 have h1:n.tdiv (b9 n d)*(b9 n d:Int)=n:=Int.tdiv_mul_cancel (Int.gcd_dvd_left ..);have h2:d.tdiv (b9 n d)*(b9 n d:Int)=d:=Int.tdiv_mul_cancel (Int.gcd_dvd_right ..);have hD:=okD fy;simp only at hD;refine(ae9 hD hd).2 ?_;generalize n.tdiv (b9 n d)=x at *;generalize d.tdiv (b9 n d)=y at *;rw[←h1,←h2];grind;cases h
theorem ahe{n d m e:Int}(hd:0<d)(he:0<e):(n:QQ) / d+(m:QQ) / e=((n*e+m*d:Int):QQ) / ((d*e:Int):QQ):=by
 have h4:(n:QQ) / d*d=n:=Rat.div_mul_cancel (qne hd);have h5:(m:QQ) / e*e=m:=Rat.div_mul_cancel (qne he);have h8:=qne (Int.mul_pos hd he);have h9:((n:QQ) / d+(m:QQ) / e)*((d*e:Int):QQ)=((n*e+m*d:Int):QQ):=by rw[Rat.intCast_mul,Rat.intCast_add,Rat.intCast_mul,Rat.intCast_mul];generalize (n:QQ) / d=x at *;generalize (m:QQ) / e=y at *;rw[←h4,←h5];grind
 rw[←h9,Rat.mul_div_cancel h8]
theorem agN{n d m e:Int}(hd:0<d)(he:0<e):(n:QQ) / d*((m:QQ) / e)=((n*m:Int):QQ) / ((d*e:Int):QQ):=by
 have h4:(n:QQ) / d*d=n:=Rat.div_mul_cancel (qne hd);have h5:(m:QQ) / e*e=m:=Rat.div_mul_cancel (qne he);have h8:=qne (Int.mul_pos hd he);have h9:((n:QQ) / d*((m:QQ) / e))*((d*e:Int):QQ)=((n*m:Int):QQ):=by rw[Rat.intCast_mul,Rat.intCast_mul];generalize (n:QQ) / d=x at *;generalize (m:QQ) / e=y at *;rw[←h4,←h5];grind
 rw[←h9,Rat.mul_div_cancel h8]
theorem ae6{a b:Rat}(h:(eL a b).2=true):qv (eL a b).1=qv a+qv b∧cP (eL a b).1=true:=by refine⟨?_,NW h⟩;unfold eL at h⊢;split at h;rename_i fy;simp only[ah] at fy;have hA:=okD fy.1;have hB:=okD fy.2;rw[if_pos (by simp[fy]),NP (Int.mul_pos hA hB) h,qv,qv,ahe hA hB];cases h
theorem afD{a b:Rat}(h:(dt a b).2=true):qv (dt a b).1=qv a*qv b∧cP (dt a b).1=true:=by unfold dt at h⊢;split at h;rename_i fy;simp only[ah] at fy;have hA:=okD fy.1;have hB:=okD fy.2;rw[if_pos (by simp[fy])];refine⟨?_,NM h⟩;rw[NP (Int.mul_pos hA hB) h,qv,qv,agN hA hB];cases h
theorem WL{s x:Rat}{c:Int}(h:(plus s c x).2=true):qv (plus s c x).1=qv s+c*qv x∧cP (plus s c x).1=true:=by unfold plus at h⊢;split at h;rename_i hm;rw[if_pos hm];have h1:=afD hm;have h2:=ae6 h;rw[h1.1,Bc] at h2;exact h2;cases h
def dot:List Int→List Rat→QQ
 | c::cs,x::xs=>c*qv x+dot cs xs
 | _,_=>0
theorem Ma:∀{cs:List Int}{xs:List Rat}{s r:Rat},mY cs xs s=some r→cP s=true→qv r=qv s+dot cs xs∧cP r=true
 | [],xs,s,r,h,hs=>by rw[J4] at h;cases h;have e:dot [] xs=0:=(by unfold dot;rfl);exact⟨by rw[e];grind,hs⟩
 | c::cs,[],s,r,h,hs=>by have e0:mY (c::cs) [] s=some s:=(by unfold mY;rfl);rw[e0] at h;cases h;have e:dot (c::cs) []=0:=(by unfold dot;rfl);exact⟨by rw[e];grind,hs⟩
 | c::cs,x::xs,s,r,h,hs=>by rw[mY] at h;split at h;rename_i hp;have h1:=WL hp;have h2:=Ma h h1.2;exact⟨by rw[h2.1,h1.1,dot];grind,h2.2⟩;cases h
theorem WG{a:Rat}{b:Int}{st:Bool}(ha:cP a=true)(hb:-1000000000≤b∧b≤1000000000):below a b st=true↔(if st then qv a<b else qv a≤b):=by
 have hw:=s7 hb.1 hb.2;unfold below;cases st with
 | true=>simp only[if_true];rw[WI ha hw,Bc]
 | false=>simp only[au,if_false,kO];have:=WI hw ha;rw[Bc] at this;rw[←Bool.not_eq_true,this,Rat.not_lt]
def gR(l:j8)(aF:List Rat):Prop:=if l.bJ then dot l.aW aF<l.bj else dot l.aW aF≤l.bj
theorem Sd{l:j8}(h:fF l=true):-1000000≤l.bj∧l.bj≤1000000:=by simp only[fF,ql,cK,ah,decide_eq_true_eq] at h;exact h.2.2
theorem RE{l:j8}{aF:List Rat}(h:oA l aF=some true):gR l aF:=by
 unfold oA at h;split at h
 ·rename_i fy;simp only[ah] at fy;cases hs:mY l.aW aF (whole 0) with
  | none=>rw[hs] at h;cases h
  | some r=>
    rw[hs] at h
    have h1:=Ma hs (s7 oM oM)
    have hb:=Sd fy.1
    have h2:=(WG (st:=l.bJ) h1.2 ⟨oM,oM⟩).1 (Option.some.inj h)
    rw[h1.1,Bc] at h2
    unfold gR
    have e:((0:Int):QQ)+dot l.aW aF=dot l.aW aF:=by grind
    rwa [e] at h2
 cases h
theorem QG{aS:List j8}{aF:List Rat}(h:na aS aF=true):∀l∈aS,gR l aF:=fun l hl=>by simp only[na,ah,List.all_eq_true,decide_eq_true_eq] at h;exact RE (h.2.2 l hl)
theorem Lv{α:Type}{ai:List ax}{f:Nat→α}:∀{bB:List hY}{out:List Nat},out.length=ai.length→(∀i k,i<ai.length→k<ai.length→cl out i=cl out k→f i=f k) →
 (∀e∈bB,e.A∈ai→e.B∈ai→f (aM ai e.A)=f (aM ai e.B))→∀i k,i<ai.length→k<ai.length→cl (bB.foldl (fY ai) out) i=cl (bB.foldl (fY ai) out) k→f i=f k
 | [],_,_,h,_,i,k,hi,hk,he=>h i k hi hk he
 | e::es,out,hl,h,hE,i,k,hi,hk,he=>by rw[List.foldl_cons] at he;refine Lv (bB:=es) (out:=fY ai out e) (by unfold fY;split<;>simp[hl]) ?_ (fun x hx=>hE x (bw _ hx)) i k hi hk he;intro i k hi hk hik;unfold fY at hik;rcases aa (b8 ai e.A<0∨b8 ai e.B<0) with hn|hn;rw[if_pos hn] at hik;exact h i k hi hk hik;rw[if_neg hn] at hik;have hA:e.A∈ai:=dE.1 oM;have hB:e.B∈ai:=dE.1 oM;have pA:=bT hA;have pB:=bT hB;have hab:=hE e (by simp) hA hB;rw[yy oM,yy oM] at hik;rcases aa (cl out i=cl out (aM ai e.A)) with h1|h1;rcases aa (cl out k=cl out (aM ai e.A)) with h2|h2;exact h i k hi hk (h1.trans h2.symm);rw[if_pos h1,if_neg h2] at hik;rw[h i _ hi pA h1,hab,h _ k pB hk hik];rcases aa (cl out k=cl out (aM ai e.A)) with h2|h2;rw[if_neg h1,if_pos h2] at hik;rw[h i _ hi pB hik,←hab,h _ k pA hk h2.symm];rw[if_neg h1,if_neg h2] at hik;exact h i k hi hk hik
theorem St{α:Type}{ai:List ax}{ab:List bL}{f:Nat→α}(hE:∀e∈br ab,e.A∈ai→e.B∈ai→f (aM ai e.A)=f (aM ai e.B)){i k:Nat}(hi:i<ai.length)(hk:k<ai.length)(h:gp ai ab i k=true):f i=f k:=by refine Lv (out:=bK ai.length) (by simp) (fun i k hi hk he=>?_) hE i k hi hk (of_decide_eq_true h);rw[jt (by simpa using hi),jt (by simpa using hk)] at he;simp only[List.getElem_range] at he;rw[he]
theorem NY:∀(cs:List Int)(aF:List Rat)(i:Nat)(v:Int),cs.length=aF.length→i<cs.length→dot (oS cs i v) aF=dot cs aF+v*qv (aF.getD i (whole 0))
 | [],_,i,_,_,h=>by simp at h
 | c::cs,[],_,_,h,_=>by simp at h
 | c::cs,x::xs,0,v,h,hi=>by simp only[oS,Int.natCast_zero,if_true,dot,List.getD_cons_zero,Rat.intCast_add];grind
 | c::cs,x::xs,i+1,v,h,hi=>by have h1:¬ ((i+1:Nat):Int)=0:=oM;have h2:((i+1:Nat):Int)-1=i:=oM;simp only[oS,if_neg h1,h2,dot,List.getD_cons_succ];rw[NY cs xs i v (by simpa using h) (by simpa using hi)];grind
def xY(ai:List ax)(aF:List Rat):List ax→List Int→QQ
 | t::ts,n::ns=>n*qv (aF.getD (aM ai t) (whole 0))+xY ai aF ts ns
 | _,_=>0
theorem OL{ai:List ax}{aF:List Rat}:∀(ts:List ax)(ns cs:List Int),(∀t∈ts,t∈ai)→ai.length≤cs.length→cs.length=aF.length→dot (l9 ai ts ns cs) aF=dot cs aF+xY ai aF ts ns
 | [],ns,cs,_,_,_=>by have e1:l9 ai [] ns cs=cs:=(by unfold l9;rfl);have e2:xY ai aF [] ns=0:=(by unfold xY;rfl);rw[e1,e2];grind
 | t::ts,[],cs,_,_,_=>by have e1:l9 ai (t::ts) [] cs=cs:=(by unfold l9;rfl);have e2:xY ai aF (t::ts) []=0:=(by unfold xY;rfl);rw[e1,e2];grind
 | t::ts,n::ns,cs,ht,hn,hc=>by have hm:=ht t (by simp);have hp:=bT hm;rw[l9,cX hm,OL ts ns _ (fun x hx=>ht x (by simp[hx])) (by rw[BO];exact hn) (by rw[BO];exact hc),NY cs aF _ n hc oM,xY];grind
theorem Tn:∀(aF:List Rat),dot [0,0,0,0] aF=0
 | []=>by unfold dot;rfl
 | [a]=>by simp only[dot];grind
 | [a,b]=>by simp only[dot];grind
 | [a,b,c]=>by simp only[dot];grind
 | a::b::c::d::r=>by simp only[dot];grind
theorem s5{ai ts:List ax}{ns:List Int}{b:Int}{st:Bool}{aF:List Rat}(h4:ai.length≤4)(hv:aF.length=4)(ht:∀t∈ts,t∈ai):gR (nX ai ts ns b st) aF↔(if st then xY ai aF ts ns<b else xY ai aF ts ns≤b):=by
 unfold gR nX;simp only;rw[OL ts ns [0,0,0,0] ht (by simpa using h4) (by simp[hv]),Tn];have e:(0:QQ)+xY ai aF ts ns=xY ai aF ts ns:=by grind
 rw[e]
def D7(aF:List Rat)(i:Nat):QQ:=qv (aF.getD i (whole 0))
theorem J1{ai:List ax}{aF:List Rat}{a b:ax}{m n:Int}:xY ai aF [a,b] [m,n]=m*D7 aF (aM ai a)+n*D7 aF (aM ai b):=by
 have e:xY ai aF [] []=0:=by unfold xY;rfl
 rw[xY,xY,e,D7,D7];grind
theorem aew{aS:List j8}(h:(cE aS).code=0):na aS (cE aS).aF=true:=by
 have hend:∀s0 s1 s2 s3 aw,(jS aS s0 s1 s2 s3 aw).code=0→na aS (jS aS s0 s1 s2 s3 aw).aF=true:=fun s0 s1 s2 s3 aw h=>by unfold jS at h⊢;split at h;split at h<;>simp at h;split at h;simp at h;split at h;rename_i hf;rw[if_pos hf];exact hf;simp at h
 unfold cE at h⊢;split at h;rename_i hs;rw[if_pos hs];split at h;simp at h;split at h;simp at h;split at h;simp at h;split at h;simp at h;exact hend _ _ _ _ _ h;simp at h
theorem Ej{al:List ax}:∀(f:Nat)(c:List Nat)(ao:List Step),c.sum≤f→c.length=al.length→gQ al (l7 al f c ao).1=none
 | f,c,ao,hs,hc=>by
  cases hn:gQ al c with
  | none=>rw[y5 hn];exact hn
  | some p=>obtain⟨f',rfl,h1,h2⟩:=y7 (ao:=ao) hs hc hn;rw[h1];exact Ej f' _ _ h2 (by rw[hU];exact hc)
theorem S3(al:List ax)(bB:List hY):gQ al (closed al bB).1=none:=
 Ej _ _ _ (Nat.le_refl _) (by rw[given,wD,List.length_range])
theorem C5{al:List ax}{c:List Nat}(h:gQ al c=none){i k:Nat}(h1:i<k)(h2:k<al.length)(ha:alike al c i k=true):cl c i=cl c k:=by have:=List.find?_eq_none.1 h (i,k) (CA.2 ⟨h1,Nat.zero_le _,h2⟩);simp only[o8,ha,lz,decide_eq_true_eq,ne_eq,Decidable.not_not] at this;exact this
structure tc(s:eM)(ab:List bL):Prop where
 AL:jK s ab
 sorted:∀t∈aL ab,(gK s t).isSome=true
 N1:(cE (fN (aG s ab) ab)).code=0
 same:dj (aG s ab).length (fU true (aL ab) (aG s ab) (closed (aL ab) (br ab)).1 ab)=none
 lf:dj (aG s ab).length (fU false (aL ab) (aG s ab) (closed (aL ab) (br ab)).1 ab)=none
section
variable{s:eM}{ab:List bL}(h:tc s ab)
abbrev BF(s:eM)(ab:List bL):List Rat:=(cE (fN (aG s ab) ab)).aF
abbrev Iv(ab:List bL):List Nat:=(closed (aL ab) (br ab)).1
include h
theorem tc.v4:(BF s ab).length=4:=(D4 h.N1).1
theorem tc.vok:∀x∈BF s ab,cP x=true:=(D4 h.N1).2
theorem tc.holds:∀l∈ab,∀x∈kK (aG s ab) l,gR x (BF s ab):=fun l hl x hx=>
 QG (aew h.N1) x (List.mem_flatMap.2 ⟨l,hl,hx⟩)
theorem tc.ag7{e:hY}(he:e∈br ab)(hA:e.A∈aG s ab)(hB:e.B∈aG s ab):D7 (BF s ab) (aM (aG s ab) e.A)=D7 (BF s ab) (aM (aG s ab) e.B):=by
 obtain⟨l,hl,h1,h2,rfl⟩:=Ha.1 he;have hll:kK (aG s ab) l=[nX (aG s ab) [l.aN.A,l.aN.B] [1,-1] 0 false,nX (aG s ab) [l.aN.A,l.aN.B] [-1,1] 0 false]:=by unfold kK;rw[if_neg oM,if_pos ⟨h2,dE.2 hA⟩]
 have ht:∀t∈[l.aN.A,l.aN.B],t∈aG s ab:=by simp[hA,hB]
 have k1:=(s5 h.AL.n4 h.v4 ht).1 (h.holds l hl (nX (aG s ab) [l.aN.A,l.aN.B] [1,-1] 0 false) (by rw[hll];simp));have k2:=(s5 h.AL.n4 h.v4 ht).1 (h.holds l hl (nX (aG s ab) [l.aN.A,l.aN.B] [-1,1] 0 false) (by rw[hll];simp));rw[J1] at k1 k2;simp only[au,if_false] at k1 k2;show D7 (BF s ab) (aM (aG s ab) l.aN.A)=D7 (BF s ab) (aM (aG s ab) l.aN.B);generalize D7 (BF s ab) (aM (aG s ab) l.aN.A)=x at *;generalize D7 (BF s ab) (aM (aG s ab) l.aN.B)=y at *;grind
theorem tc.ZY{i k:Nat}(hi:i<(aG s ab).length)(hk:k<(aG s ab).length)(hs:fW (aG s ab) ab i k=true):D7 (BF s ab) i<D7 (BF s ab) k:=by
 obtain⟨l,hl,h1⟩:=List.any_eq_true.1 hs;simp only[ah,kO,decide_eq_true_eq] at h1;rw[getD_at hi,getD_at hk] at h1;have hmi:=aj hi;have hmk:=aj hk;have pi:aM (aG s ab) (aG s ab)[i]=i:=by rw[aM,lK h.AL.wh hi];rfl
 have pk:aM (aG s ab) (aG s ab)[k]=k:=by rw[aM,lK h.AL.wh hk];rfl
 have hkd:l.aN.kind=2:=by rw[h1.2];unfold fa;split<;>rfl
 have hll:kK (aG s ab) l=[nX (aG s ab) l.aN.ai l.aN.a8 l.aN.bj l.aN.bJ]:=by unfold kK;rw[if_pos hkd,h1.1];rfl
 have k0:=h.holds l hl _ (by rw[hll];exact cO.2 rfl);rw[h1.2] at k0;generalize (aG s ab)[i]=a at *;generalize (aG s ab)[k]=b at *;unfold fa at k0;split at k0;have k1:=(s5 h.AL.n4 h.v4 (by simp[hmi,hmk])).1 k0;rw[J1,pi,pk] at k1;simp only[if_true] at k1;generalize D7 (BF s ab) i=x at *;generalize D7 (BF s ab) k=y at *;grind;have k1:=(s5 h.AL.n4 h.v4 (by simp[hmi,hmk])).1 k0;rw[J1,pi,pk] at k1;simp only[if_true] at k1;generalize D7 (BF s ab) i=x at *;generalize D7 (BF s ab) k=y at *;grind
theorem tc.Y5{i k:Nat}(hi:i<(aG s ab).length)(hk:k<(aG s ab).length)(hl:gp (aG s ab) ab i k=true):D7 (BF s ab) i=D7 (BF s ab) k:=
 St (f:=D7 (BF s ab)) (fun _ he hA hB=>h.ag7 he hA hB) hi hk hl
theorem tc.abK{i k:Nat}(hi:i<(aG s ab).length)(hk:k<(aG s ab).length)(hl:gp (aG s ab) ab i k=true):cl (Iv ab) (aM (aL ab) ((aG s ab).getD i aQ))=cl (Iv ab) (aM (aL ab) ((aG s ab).getD k aQ)):=by refine St (f:=fun i=>cl (Iv ab) (aM (aL ab) ((aG s ab).getD i aQ))) (fun e he hA hB=>?_) hi hk hl;have:=Vi (al:=aL ab) h.AL.ER he;rw[getD_at (bT hA),getD_at (bT hB)];have g:∀{t:ax}(ht:t∈aG s ab),(aG s ab)[aM (aG s ab) t]'(bT ht)=t:=fun ht=>(bV.1 (kz ht)).2;rw[g hA,g hB];exact of_decide_eq_true this
theorem tc.aev{i k:Nat}(hi:i<(aG s ab).length)(hk:k<(aG s ab).length)(hs:cl (Iv ab) (aM (aL ab) ((aG s ab).getD i aQ))=cl (Iv ab) (aM (aL ab) ((aG s ab).getD k aQ))):D7 (BF s ab) i=D7 (BF s ab) k:=by
 have key:∀i k,i<k→k<(aG s ab).length→cl (Iv ab) (aM (aL ab) ((aG s ab).getD i aQ))=cl (Iv ab) (aM (aL ab) ((aG s ab).getD k aQ))→D7 (BF s ab) i=D7 (BF s ab) k:=fun i k h1 h2 hs=>by have h3:=BB h.same h1 h2;have hsm:ix (aL ab) (Iv ab) ((aG s ab).getD i aQ) ((aG s ab).getD k aQ)=true:=decide_eq_true hs;simp only[fU,hsm,if_true,lz,Bool.not_eq_false'] at h3;exact h.Y5 oM h2 h3
 rcases fV i k with h1|rfl|h1;exact key i k h1 hk hs;rfl;exact(key k i h1 hi hs.symm).symm
theorem tc.adI{i k:Nat}(hi:i<(aG s ab).length)(hk:k<(aG s ab).length)(hs:D7 (BF s ab) i=D7 (BF s ab) k):cl (Iv ab) (aM (aL ab) ((aG s ab).getD i aQ))=cl (Iv ab) (aM (aL ab) ((aG s ab).getD k aQ)):=by
 have key:∀i k,i<k→k<(aG s ab).length→D7 (BF s ab) i=D7 (BF s ab) k→cl (Iv ab) (aM (aL ab) ((aG s ab).getD i aQ))=cl (Iv ab) (aM (aL ab) ((aG s ab).getD k aQ)):=fun i k h1 h2 hs=>by
  have h3:=BB h.lf h1 h2;simp only[fU,au,if_false] at h3;cases hl:gp (aG s ab) ab i k with
  | true=>exact h.abK oM h2 hl
  | false=>
   rw[hl] at h3;simp only[gU,aA] at h3;cases ha:fW (aG s ab) ab i k with
   | true=>have:=h.ZY oM h2 ha;rw[hs] at this;exact absurd this Rat.lt_irrefl
   | false=>rw[ha] at h3;simp only[gU,aA,Bool.not_eq_false'] at h3;have:=h.ZY h2 oM h3;rw[hs] at this;exact absurd this Rat.lt_irrefl
 rcases fV i k with h1|rfl|h1;exact key i k h1 hk hs;rfl;exact(key k i h1 hi hs.symm).symm
end
theorem DW{s:eM}:∀{ks:List ax}{as:List Int},ja s ks as=true→as.length=ks.length→∀(j:Nat)(h1:j<ks.length)(h2:j<as.length),ic s ks[j]=some as[j]
 | [],_,_,_,j,h1,_=>by simp at h1
 | k::ks,[],_,h,_,_,_=>by simp at h
 | k::ks,a::as,h,hl,0,_,_=>by simp only[ja,ah,decide_eq_true_eq] at h;exact h.1
 | k::ks,a::as,h,hl,j+1,h1,h2=>by simp only[ja,ah,decide_eq_true_eq] at h;simpa using DW h.2 (by simpa using hl) j (by simpa using h1) (by simpa using h2)
theorem UQ{s:eM}{t:ax}{r:Int}(h:ic s t=some r):∃x,symbol s t.name=some x∧x.args.length=t.ar.length∧ja s t.ar x.args=true∧x.sort=r:=by obtain⟨n,ks⟩:=t;rw[ic] at h;split at h;cases h;rename_i x hx;split at h;rename_i hc;simp only[ah,decide_eq_true_eq] at hc;exact⟨x,hx,hc.1,hc.2,Option.some.inj h⟩;cases h
theorem xD{s:eM}{t:ax}(h:(gK s t).isSome=true):gK s t=ic s t:=by unfold gK at h⊢;split;rfl;rename_i hc;rw[if_neg hc] at h;cases h
theorem VR{rs:List Row}{t r:Row}(h:r∈putRow rs t):r∈rs∨r=t:=by rw[ve] at h;split at h;exact .inl h;rcases aO.1 h with h|h;exact .inl (List.mem_of_mem_take h);rcases List.mem_cons.1 h with h|h;exact .inr h;exact .inl (List.mem_of_mem_drop h)
theorem Sh{rs:List Row}{t r:Row}(h:r∈rs):r∈putRow rs t:=by rw[ve];split;exact h;rw[←List.take_append_drop (cut rs t) rs] at h;rcases aO.1 h with h|h;exact dI _ h;exact List.mem_append_right _ (bw _ h)
theorem Ue{rs:List Row}{t:Row}(hr:∀r∈rs,fg r.args=true)(ht:fg t.args=true):∃r∈putRow rs t,r.name=t.name∧r.args=t.args:=by rw[ve];split;rename_i hf;unfold found at hf;split at hf;rename_i r hx;have hm:=List.mem_of_getElem? hx;exact⟨r,hm,(s9 (hr r hm) ht).1 (of_decide_eq_true hf)⟩;cases hf;exact⟨t,by simp,rfl,rfl⟩
theorem Su{g:ax→Row}(hg:∀t,fg (g t).args=true):∀(ts:List ax)(rs:List Row)(done:List ax),(∀r∈rs,∃u∈done,r=g u)→(∀t∈done,∃r∈rs,r.name=(g t).name∧r.args=(g t).args) →
 (∀r∈ts.foldl (fun aw t=>putRow aw (g t)) rs,∃u∈done++ts,r=g u)∧(∀t∈done++ts,∃r∈ts.foldl (fun aw t=>putRow aw (g t)) rs,r.name=(g t).name∧r.args=(g t).args)
 | [],rs,done,h1,h2=>by simpa using ⟨h1,h2⟩
 | t::ts,rs,done,h1,h2=>by
  have fy:∀r∈rs,fg r.args=true:=fun r hr=>by obtain⟨u,_,rfl⟩:=h1 r hr;exact hg u
  have:=Su hg ts (putRow rs (g t)) (done++[t]) (fun r hr=>by
   rcases VR hr with hr|hr
   ·obtain⟨u,hu,e⟩:=h1 r hr
    exact⟨u,dI _ hu,e⟩
   ·exact⟨t,by simp,hr⟩) (fun u hu=>by
   rcases aO.1 hu with hu|hu
   ·obtain⟨r,hr,e⟩:=h2 u hu
    exact⟨r,Sh hr,e⟩
   ·rw[cO.1 hu]
    exact Ue fy (hg t))
  rw[List.append_assoc] at this;exact this
theorem XO{aw:List Row}{n:pL}{as:List Rat}{v:Rat}(h1:∃r∈aw,r.name=n∧r.args=as)(h2:∀r∈aw,r.name=n→r.args=as→r.val=v):lookup aw n as=v:=by
 unfold lookup;obtain⟨r,hr,e⟩:=h1;cases hf:aw.find? (fun r=>decide (r.name=n∧r.args=as)) with
 | none=>have:=List.find?_eq_none.1 hf r hr;exact absurd (decide_eq_true e) this
 | some x=>have hx:=List.find?_some hf;have:=of_decide_eq_true hx;exact h2 x (List.mem_of_find?_eq_some hf) this.1 this.2
section
variable{s:eM}{ab:List bL}(h:tc s ab)
abbrev Xx(s:eM)(ab:List bL)(t:ax):Rat:=kG (aL ab) (aG s ab) (Iv ab) (BF s ab) t
include h
theorem tc.sort{t:ax}(ht:t∈aL ab):∃x,symbol s t.name=some x∧x.args.length=t.ar.length∧ja s t.ar x.args=true∧gK s t=some x.sort:=by have h1:=h.sorted t ht;have h2:=xD h1;obtain⟨r,hr⟩:=Option.isSome_iff_exists.1 h1;obtain⟨x,x1,x2,x3,x4⟩:=UQ (h2▸hr);exact⟨x,x1,x2,x3,by rw[hr,x4]⟩
theorem tc.JH{t:ax}(ht:t∈aL ab):t∈aG s ab↔gK s t=some 1:=by have _:=h.N1;rw[←KV,List.mem_filter];simp[ht,eQ]
theorem tc.abu{t u:ax}(ht:t∈aL ab)(hu:u∈aL ab)(hn:t.name=u.name):t∈aG s ab↔u∈aG s ab:=by obtain⟨x,x1,_,_,x4⟩:=h.sort ht;obtain⟨y,y1,_,_,y4⟩:=h.sort hu;rw[hn,y1] at x1;obtain rfl:=Option.some.inj x1;rw[h.JH ht,h.JH hu,x4,y4]
theorem tc.aaF{t u:ax}(ht:t∈aL ab)(hu:u∈aL ab)(hn:t.name=u.name)(j:Nat)(h1:j<t.ar.length)(h2:j<u.ar.length):t.ar[j]∈aG s ab↔u.ar[j]∈aG s ab:=by obtain⟨x,x1,x2,x3,_⟩:=h.sort ht;obtain⟨y,y1,y2,y3,_⟩:=h.sort hu;rw[hn,y1] at x1;obtain rfl:=Option.some.inj x1;have kt:=h.AL.ar t ht _ (aj h1);have ku:=h.AL.ar u hu _ (aj h2);have st:=DW x3 x2 j h1 oM;have su:=DW y3 y2 j h2 oM;rw[h.JH kt,h.JH ku,xD (h.sorted _ kt),xD (h.sorted _ ku),st,su]
theorem tc.Qk{t:ax}(ht:t∈aG s ab):(aG s ab).getD (aM (aG s ab) t) aQ=t:=by have _:=h.N1;rw[getD_at (bT ht)];exact(bV.1 (kz ht)).2
theorem tc.E5{t:ax}(ht:t∈aG s ab):Xx s ab t=(BF s ab).getD (aM (aG s ab) t) (whole 0):=by have _:=h.N1;have:=dE.2 ht;rw[Xx,kG,if_neg oM]
theorem tc.D1{t:ax}(ht:t∉aG s ab):Xx s ab t=whole (cl (Iv ab) (aM (aL ab) t)):=by
 have _:=h.N1;have:b8 (aG s ab) t<0:=by rcases Int.lt_or_le (b8 (aG s ab) t) 0 with h1|h1;exact h1;exact absurd (dE.1 h1) ht
 rw[Xx,kG,if_pos this]
theorem tc.WY(i:Nat):cP ((BF s ab).getD i (whole 0))=true:=by rcases Nat.lt_or_ge i (BF s ab).length with h1|h1;rw[getD_at h1];exact h.vok _ (aj h1);rw[List.getD_eq_getElem?_getD,List.getElem?_eq_none h1];exact s7 oM oM
theorem tc.one{t u:ax}(ht:t∈aL ab)(hu:u∈aL ab)(hk:t∈aG s ab↔u∈aG s ab)(hv:Xx s ab t=Xx s ab u):cl (Iv ab) (aM (aL ab) t)=cl (Iv ab) (aM (aL ab) u):=by
 rcases aa (t∈aG s ab) with hn|hn;have hn':=hk.1 hn;rw[h.E5 hn,h.E5 hn'] at hv;have:=h.adI (bT hn) (bT hn') (by rw[D7,D7,hv])
 rwa [h.Qk hn,h.Qk hn'] at this;have hn':u∉aG s ab:=fun x=>hn (hk.2 x);rw[h.D1 hn,h.D1 hn'] at hv;have:=congrArg Rat.N hv;simp only[WC] at this;omega
theorem tc.val{t u:ax}(hk:t∈aG s ab↔u∈aG s ab)(hc:cl (Iv ab) (aM (aL ab) t)=cl (Iv ab) (aM (aL ab) u)):Xx s ab t=Xx s ab u:=by rcases aa (t∈aG s ab) with hn|hn;have hn':=hk.1 hn;have:=h.aev (bT hn) (bT hn') (by rwa [h.Qk hn,h.Qk hn']);rw[h.E5 hn,h.E5 hn'];exact aaE (h.WY _) (h.WY _) this;have hn':u∉aG s ab:=fun x=>hn (hk.2 x);rw[h.D1 hn,h.D1 hn',hc]
omit h in
theorem Gb{al:List ax}{c:List Nat}:∀{xs ys:List ax},xs.length=ys.length→(∀(j:Nat)(h1:j<xs.length)(h2:j<ys.length),cl c (aM al xs[j])=cl c (aM al ys[j]))→nQ al c xs ys=true
 | [],[],_,_=>rfl
 | [],_::_,h,_=>by simp at h
 | _::_,[],h,_=>by simp at h
 | x::xs,y::ys,hl,hx=>by rw[nQ,ah];exact⟨decide_eq_true (hx 0 (by simp) (by simp)),Gb (by simpa using hl) fun j h1 h2=>hx (j+1) (by simpa using h1) (by simpa using h2)⟩
theorem tc.ah0{t u:ax}(ht:t∈aL ab)(hu:u∈aL ab)(hn:t.name=u.name)(hk:t.ar.map (Xx s ab)=u.ar.map (Xx s ab)):Xx s ab t=Xx s ab u:=by
 have hl:t.ar.length=u.ar.length:=by simpa using congrArg List.length hk
 have hks:∀(j:Nat)(h1:j<t.ar.length)(h2:j<u.ar.length),cl (Iv ab) (aM (aL ab) t.ar[j])=cl (Iv ab) (aM (aL ab) u.ar[j]):=fun j h1 h2=>by refine h.one (h.AL.ar t ht _ (aj h1)) (h.AL.ar u hu _ (aj h2)) (h.aaF ht hu hn j h1 h2) ?_;have:=congrArg (fun l:List Rat=>l[j]?) hk;simpa[h1,h2] using this
 refine h.val (h.abu ht hu hn) ?_;rcases aa (t.ar=[]) with h0|h0;have h0':u.ar=[]:=List.eq_nil_of_length_eq_zero (by rw[←hl,h0];rfl);have e:t=u:=by obtain⟨a,b⟩:=t;obtain⟨c,d⟩:=u;simp only[ax.name,ax.ar] at hn h0 h0';rw[hn,h0,h0']
 rw[e];have hpos:0<t.ar.length:=List.length_pos_iff.2 h0;have pt:=bT ht;have pu:=bT hu;have gt:(aL ab).getD (aM (aL ab) t) aQ=t:=by rw[getD_at pt];exact(bV.1 (kz ht)).2
 have gu:(aL ab).getD (aM (aL ab) u) aQ=u:=by rw[getD_at pu];exact(bV.1 (kz hu)).2
 have hd:=S3 (aL ab) (br ab);rcases fV (aM (aL ab) t) (aM (aL ab) u) with h1|h1|h1;refine C5 hd h1 pu ?_;rw[alike,gt,gu,ah,ah];exact⟨decide_eq_true hpos,decide_eq_true hn,Gb hl hks⟩;rw[h1];refine(C5 hd h1 pt ?_).symm;rw[alike,gt,gu,ah,ah];exact⟨decide_eq_true oM,decide_eq_true hn.symm,Gb hl.symm fun j a b=>(hks j b a).symm⟩
end
section
variable{s:eM}{ab:List bL}(h:tc s ab)
include h
theorem tc.bj:∀x∈Iv ab,x≤1000:=h.AL.PD
theorem tc.value:∀(t:ax),t∈aL ab→value ⟨jT (aL ab) (aG s ab) (Iv ab) (BF s ab)⟩ t=Xx s ab t:=
 ax.ind fun n ks ih ht=>by have hks:values ⟨jT (aL ab) (aG s ab) (Iv ab) (BF s ab)⟩ ks=ks.map (Xx s ab):=(by rw[oT];exact List.map_congr_left fun k hk=>ih k hk (h.AL.ar _ ht k hk));rw[Go.Mod.value,hks];obtain⟨i1,i2⟩:=Su (g:=j9 (aL ab) (aG s ab) (Iv ab) (BF s ab)) (fun t=>vS h.bj h.vok) (aL ab) [] [] (by simp) (by simp);simp only[List.nil_append] at i1 i2;refine XO ?_ ?_;obtain⟨r,hr,e1,e2⟩:=i2 _ ht;exact⟨r,hr,e1,e2⟩;intro r hr e1 e2;obtain⟨u,hu,rfl⟩:=i1 r hr;exact h.ah0 hu ht e1 e2
end
def Ends(s:eM)(ab:List bL)(m:dQ):Prop:=∃more,aL (ab++more)=aL ab∧aG s (ab++more)=aG s ab∧tc s (ab++more) ∧
 m=⟨jT (aL (ab++more)) (aG s (ab++more)) (Iv (ab++more)) (BF s (ab++more))⟩
def ahC(s:eM)(m:dQ)(ai:List ax):List Rat:=(bK 4).map fun i=>if i<ai.length then value m (ai.getD i aQ) else whole 0
end Go.Mod
