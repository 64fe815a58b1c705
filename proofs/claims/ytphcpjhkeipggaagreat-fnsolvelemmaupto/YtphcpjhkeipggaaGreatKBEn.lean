/-
  Plain laws: what has a reason that it can not be is so in no model. No program is walked here.
-/
import Derived.Test.YtphcpjhkeipggaaGreatKBEm
set_option linter.unusedVariables false
set_option linter.unusedSimpArgs false
open Bool renaming and_eq_true→ah,false_eq_true→au
open Classical renaming em→aa
open List renaming getElem_mem→aj,mem_cons→az,getD_eq_getElem?_getD→aB,mem_append→aO,map_cons→aV,length_cons→aY,range→bK,mem_map→bN,getElem?_eq_some_iff→bV,mem_singleton→cO,all_eq_true→cV,nodup_cons→da,mem_of_getElem?→dH,map_nil→dS
open Nat renaming le_refl→aK,lt_or_ge→cz
open Option renaming map_some→cZ
namespace Go.Mod
open Go.Eng
set_option maxRecDepth 100000
def uN(m:dQ):List ax→List Int→QQ
 | t::ts,n::ns=>n*qv (value m t)+uN m ts ns
 | _,_=>0
def Mv(m:dQ)(a:cR):Prop:=if a.bJ then uN m a.ai a.a8<a.bj else uN m a.ai a.a8≤a.bj
def nN(m:dQ)(l:bL):Prop:=if l.aN.kind=1 then(if l.no then value m l.aN.A≠value m l.aN.B else value m l.aN.A=value m l.aN.B) else(if l.no then ¬Mv m l.aN else Mv m l.aN)
theorem K7{m:dQ}:∀{ts:List ax}{ns:List Int}{s r:Rat},ox m ts ns s=some r→cP s=true→qv r=qv s+uN m ts ns∧cP r=true
 | [],ns,s,r,h,hs=>by have e0:ox m [] ns s=some s:=(by unfold ox;rfl);rw[e0] at h;cases h;have e:uN m [] ns=0:=(by unfold uN;rfl);exact⟨by rw[e];grind,hs⟩
 | t::ts,[],s,r,h,hs=>by have e0:ox m (t::ts) [] s=some s:=(by unfold ox;rfl);rw[e0] at h;cases h;have e:uN m (t::ts) []=0:=(by unfold uN;rfl);exact⟨by rw[e];grind,hs⟩
 | t::ts,n::ns,s,r,h,hs=>by rw[ox] at h;split at h;rename_i hp;have h1:=WL hp;have h2:=K7 h h1.2;exact⟨by rw[h2.1,h1.1,uN];grind,h2.2⟩;cases h
theorem ZR{a:cR}(h:dq a=true)(k2:a.kind=2):-1000000000≤a.bj∧a.bj≤1000000000:=by have hk:¬a.kind=1:=oM;simp only[dq,if_neg hk,if_pos k2,ah,cK,decide_eq_true_eq] at h;have:=h.2.2.2.2.1;omega
theorem XV{s:eM}{m:dQ}{l:bL}(h:iy s m l=some true):nN m l:=by
 unfold iy at h;split at h
 ·rename_i hc;simp only[ah,gr] at hc;have hwf:=hc.2.2.1;unfold nN;unfold qi at h;rcases aa (l.aN.kind=1) with hk|hk
  ·rw[if_pos hk] at h⊢;simp only[cZ,Option.some.injEq] at h;cases hn:l.no with
   | true=>rw[hn] at h;simpa using h
   | false=>rw[hn] at h;simpa using h
  rw[if_neg hk] at h⊢;have k2:=(ml hwf).resolve_left hk;cases hs:ox m l.aN.ai l.aN.a8 (whole 0) with
  | none=>rw[hs] at h;cases h
  | some r=>
   rw[hs] at h;simp only[cZ,Option.some.injEq] at h;have h1:=K7 hs (s7 oM oM);have h2:=WG (st:=l.aN.bJ) h1.2 (ZR hwf k2);rw[h1.1,Bc] at h2;have e:((0:Int):QQ)+uN m l.aN.ai l.aN.a8=uN m l.aN.ai l.aN.a8:=(by grind);rw[e] at h2;have h3:below r l.aN.bj l.aN.bJ=true↔Mv m l.aN:=h2;cases hn:l.no with
   | true=>rw[hn] at h;simp only[if_true];rw[←h3];intro hx;rw[hx] at h;simp at h
   | false=>rw[hn] at h;simp only[au,if_false];rw[←h3];simpa using h
 cases h
theorem Q6{s:eM}{m:dQ}{ab:List bL}(h:jH s m ab=true):fS m=true∧∀l∈ab,nN m l:=by simp only[jH,fR,ah,cV,decide_eq_true_eq] at h;exact⟨h.1.2.1,fun l hl=>XV (h.2 l hl)⟩
section
variable{m:dQ}{bB:List hY}(hE:∀e∈bB,value m e.A=value m e.B)
include hE
theorem Ti{r n:Int}{t:ax}{ar:List hY}(hk:∀e∈ar,value m e.A=value m e.B)(h:(bZ bB r n t ar).2=true):value m (bZ bB r n t ar).1.A=value m (bZ bB r n t ar).1.B:=by unfold bZ at h⊢;split at h;cases h;rename_i c0;rw[if_neg c0];split at h;rename_i c1;rw[if_pos c1];rename_i c1;rw[if_neg c1];split at h;rename_i c2;rw[if_pos c2];split at h;cases h;rename_i c3;rw[if_neg c3];simp only;rcases cz n.toNat bB.length with hl|hl;rw[getD_at hl];exact hE _ (aj hl);rw[aB,List.getElem?_eq_none hl];rfl;rename_i c2;rw[if_neg c2];split at h;rename_i c3;rw[if_pos c3];split at h;rename_i c4;rw[if_pos c4];simp only;rw[getD_at oM];exact(hk _ (aj _)).symm;cases h;rename_i c3;rw[if_neg c3];split at h;rename_i c4;rw[if_pos c4];split at h;rename_i c5;rw[if_pos c5];simp only;obtain⟨c6,c7⟩:=c5;have e0:=hk _ (aj (show 0<ar.length by omega));have e1:=hk _ (aj (show 1<ar.length by omega));rw[getD_at (show 0<ar.length by omega),getD_at (show 1<ar.length by omega)] at c7⊢;rw[e0,c7,e1];cases h;rename_i c4;rw[if_neg c4];split at h;rename_i c5;rw[if_pos c5];split at h;cases h;rename_i c6;rw[if_neg c6];simp only;rw[value,value,oT,oT,List.map_map,List.map_map];congr 1;exact List.map_congr_left fun e he=>hk e he;cases h
end
mutual
theorem FH{m:dQ}{bB:List hY}(hE:∀e∈bB,value m e.A=value m e.B):∀(w:lH)(d:Nat),(cp (bZ bB) w d).2=true→value m (cp (bZ bB) w d).1.A=value m (cp (bZ bB) w d).1.B
 | .mk r n t ks,0,h=>by rw[cp] at h;cases h
 | .mk r n t ks,d+1,h=>by
  rw[cp] at h⊢;cases hk:dC (bZ bB) ks d with
  | none=>rw[hk] at h;cases h
  | some ar=>rw[hk] at h;exact Ti hE (Ct hE ks d ar hk) h
theorem Ct{m:dQ}{bB:List hY}(hE:∀e∈bB,value m e.A=value m e.B):∀(ws:List lH)(d:Nat)(es:List hY),dC (bZ bB) ws d=some es→∀e∈es,value m e.A=value m e.B
 | [],d,es,h,e,he=>by rw[dC] at h;cases h;cases he
 | w::ws,d,es,h,e,he=>by
  rw[dC] at h;split at h
  ·rename_i h1;cases hr:dC (bZ bB) ws d with
   | none=>rw[hr] at h;cases h
   | some r=>rw[hr] at h;simp only[cZ,Option.some.injEq] at h;rw[←h] at he;rcases az.1 he with rfl|he;exact FH hE w d h1;exact Ct hE ws d r hr e he
  cases h
end
theorem Be{m:dQ}{bB:List hY}(hE:∀e∈bB,value m e.A=value m e.B){s:eM}{w:lH}{e:hY}(h:mc s bB w=some e):value m e.A=value m e.B∧pC s [e]=true:=by unfold mc at h;split at h;rename_i hc;simp only[ah] at hc;cases h;exact⟨FH hE w 400 hc.2.1,hc.2.2⟩;cases h
theorem SN{m n:Int}:∀{as bs:List Int}{aF:List Rat},as.length=bs.length→dot (iC m n as bs) aF=m*dot as aF+n*dot bs aF
 | [],[],aF,_=>by have e:dot [] aF=0:=(by unfold dot;rfl);rw[iC,e];grind;intros;contradiction
 | [],_::_,_,h=>by simp at h
 | _::_,[],_,h=>by simp at h
 | a::as,b::bs,[],_=>by have e1:dot (iC m n (a::as) (b::bs)) []=0:=(by rw[iC];unfold dot;rfl);have e2:dot (a::as) []=0:=(by unfold dot;rfl);have e3:dot (b::bs) []=0:=(by unfold dot;rfl);rw[e1,e2,e3];grind
 | a::as,b::bs,x::xs,h=>by rw[iC,dot,dot,dot,SN (by simpa using h),Rat.intCast_add,Rat.intCast_mul,Rat.intCast_mul];grind
theorem OG{l:j8}(h:fF l=true):l.aW.length=4:=by simp only[fF,ah,decide_eq_true_eq] at h;exact h.2.1
theorem U6{a b:j8}{m n:Int}(h:(fL a m b n).2=true):fF a=true∧fF b=true∧0≤n∧(fL a m b n).1=mG a m b n:=by unfold fL at h⊢;split at h;rename_i hc;simp only[ah,cK,decide_eq_true_eq] at hc;rw[if_pos (by simp only[ah,cK,decide_eq_true_eq];exact hc)];unfold nO at h⊢;split at h;rename_i h2;rw[if_pos h2];exact⟨hc.1.1.1,hc.1.1.2,hc.2.1,rfl⟩;cases h;cases h
theorem Rq{a b:j8}{n:Int}{aF:List Rat}(h:(fL a 1 b n).2=true)(ha:gR a aF)(hb:gR b aF):gR (fL a 1 b n).1 aF:=by
 obtain⟨h1,h2,h3,h4⟩:=U6 h;rw[h4];have hd:=SN (m:=1) (n:=n) (aF:=aF) ((OG h1).trans (OG h2).symm);unfold gR mG at *;simp only;rw[hd,Rat.intCast_add,Rat.intCast_mul,Rat.intCast_mul];have hn:(0:QQ)≤(n:QQ):=by have:=Rat.intCast_le_intCast (a:=0) (b:=n);rw[Rat.intCast_zero] at this;exact this.2 h3
 generalize hx:dot a.aW aF=x at *;generalize hy:dot b.aW aF=y at *;have hle:(n:QQ)*y≤n*b.bj:=by
  refine Rat.mul_le_mul_of_nonneg_left ?_ hn;cases hs:b.bJ with
  | true=>rw[hs] at hb;simp only[if_true] at hb;grind
  | false=>rw[hs] at hb;simpa using hb
 have h1':((1:Int):QQ)=1:=Rat.intCast_one;rw[h1'];rcases aa (a.bJ=true) with hsa|hsa;rw[hsa] at ha⊢;simp only[if_true] at ha;rw[if_pos (by simp)];grind;have hsa':a.bJ=false:=by simpa using hsa
 rw[hsa'] at ha⊢;simp only[au,if_false,Bool.and_false,Bool.false_or] at ha⊢;rcases aa ((decide (0<n)&&b.bJ)=true) with hc|hc;rw[if_pos hc];simp only[ah,decide_eq_true_eq] at hc;rw[hc.2] at hb;simp only[if_true] at hb;have hp:(0:QQ)<(n:QQ):=Rat.intCast_pos.2 hc.1;have:=Rat.mul_lt_mul_of_pos_left hb hp;grind;rw[if_neg hc];grind
theorem HB{aF:List Rat}:∀{ls:List j8}{ts:List Int}{out:j8},(∀l∈ls,gR l aF)→gR out aF→(rD ls ts out).2=true→gR (rD ls ts out).1 aF
 | [],ts,out,_,ho,_=>by have e:rD [] ts out=(out,true):=(by unfold rD;rfl);rw[e];exact ho
 | l::ls,[],out,_,ho,_=>by have e:rD (l::ls) [] out=(out,true):=(by unfold rD;rfl);rw[e];exact ho
 | l::ls,t::ts,out,hl,ho,h=>by rw[rD] at h⊢;split at h;rename_i hs;rw[if_pos hs];exact HB (fun x hx=>hl x (by simp[hx])) (Rq hs ho (hl l (by simp))) h;cases h
theorem Ty:∀{cs:List Int}{aF:List Rat},(∀c∈cs,c=0)→dot cs aF=0
 | [],aF,_=>by unfold dot;rfl
 | c::cs,[],_=>by unfold dot;rfl
 | c::cs,x::xs,h=>by rw[dot,h c (by simp),Ty fun y hy=>h y (by simp[hy]),Rat.intCast_zero];grind
theorem UB{l:j8}{aF:List Rat}(h:lM l=true):¬gR l aF:=by simp only[lM,flat,ah,Bool.or_eq_true,cV,decide_eq_true_eq] at h;obtain⟨_,h1,h2⟩:=h;unfold gR;rw[Ty h1];have hc:=Rat.intCast_lt_intCast (a:=l.bj) (b:=0);rw[Rat.intCast_zero] at hc;rcases h2 with h2|h2;have:=hc.2 h2;split;grind;grind;rw[h2.2,h2.1,Rat.intCast_zero];simp only[if_true];exact Rat.lt_irrefl
theorem X4{aS:List j8}{a8:List Int}{aF:List Rat}(h:vY aS a8=true):¬ ∀l∈aS,gR l aF:=fun hl=>by simp only[vY,ah] at h;obtain⟨h1,h2⟩:=h;unfold mv at h1 h2;split at h1;rename_i hc;rw[if_pos hc] at h2;refine UB h2 (HB hl ?_ h1);unfold gR;simp only[au,if_false,Tn,Rat.intCast_zero];exact Rat.le_refl;cases h1
section
variable{m:dQ}{ai:List ax}(h4:ai.length≤4)
def AK(m:dQ)(ai:List ax):List Rat:=(bK 4).map fun i=>if i<ai.length then value m (ai.getD i aQ) else whole 0
theorem Ud(m:dQ)(ai:List ax):(AK m ai).length=4:=by simp[AK]
include h4
theorem YX{t:ax}(ht:t∈ai):(AK m ai).getD (aM ai t) (whole 0)=value m t:=by have hp:=bT ht;rw[AK,aB,List.getElem?_map,List.getElem?_range oM];simp only[cZ,Option.getD_some,if_pos hp];rw[getD_at hp];exact congrArg (value m) (bV.1 (kz ht)).2
theorem OT:∀{ts:List ax}{ns:List Int},(∀t∈ts,t∈ai)→xY ai (AK m ai) ts ns=uN m ts ns
 | [],ns,_=>by unfold xY uN;rfl
 | t::ts,[],_=>by unfold xY uN;rfl
 | t::ts,n::ns,ht=>by rw[xY,uN,YX h4 (ht t (by simp)),OT fun x hx=>ht x (by simp[hx])]
theorem GM{ts:List ax}{ns:List Int}{b:Int}{st:Bool}(ht:∀t∈ts,t∈ai):gR (nX ai ts ns b st) (AK m ai)↔(if st then uN m ts ns<b else uN m ts ns≤b):=by rw[s5 h4 (Ud m ai) ht,OT h4 ht]
omit h4 in
theorem W4:∀{cs:List Int}{aF:List Rat},dot (cs.map fun c=>-c) aF = - dot cs aF
 | [],aF=>by have e:dot [] aF=0:=(by unfold dot;rfl);rw[dS,e];grind
 | c::cs,[]=>by have e1:dot (c::cs) []=0:=(by unfold dot;rfl);have e2:dot ((c::cs).map fun c=>-c) []=0:=(by rw[aV];unfold dot;rfl);rw[e1,e2];grind
 | c::cs,x::xs=>by rw[aV,dot,dot,W4,Rat.intCast_neg];grind
omit h4 in
theorem Pz{l:j8}{aF:List Rat}(h:¬gR l aF):gR (tV l) aF:=by
 unfold tV;split
 ·unfold gR at h⊢;simp only;rw[W4,Rat.intCast_neg];generalize dot l.aW aF=x at *;cases hs:l.bJ with
  | true=>rw[hs] at h;simp only[if_true,Bool.not_true,au,if_false] at h⊢;grind
  | false=>rw[hs] at h;simp only[au,if_false,Bool.not_false,if_true] at h⊢;grind
 unfold gR qo;have e:dot [] aF=0:=by unfold dot;rfl
 simp only[au,if_false,e,Rat.intCast_zero];exact Rat.le_refl
theorem R2{l:bL}(hf:Fit ai l)(hs:nN m l):∀x∈kK ai l,gR x (AK m ai):=by
 intro x hx;unfold kK at hx;rcases aa (l.aN.kind=2) with k2|k2
 ·rw[if_pos k2,cO] at hx;have k1:¬l.aN.kind=1:=oM;unfold nN at hs;rw[if_neg k1] at hs;have e:=GM (m:=m) (ns:=l.aN.a8) (b:=l.aN.bj) (st:=l.aN.bJ) h4 (hf.sum k2);rw[hx];cases hn:l.no with
  | true=>rw[hn] at hs;simp only[if_true] at hs⊢;exact Pz fun hh=>hs (e.1 hh)
  | false=>rw[hn] at hs;simp only[au,if_false] at hs⊢;exact e.2 hs
 rw[if_neg k2] at hx;split at hx;rename_i hc;have hA:l.aN.A∈ai:=dE.1 hc.2;have k1:=(ml hf.wf).resolve_right k2;have hB:=(hf.eq k1).1 hA;unfold nN at hs;rw[if_pos k1,hc.1] at hs;simp only[au,if_false] at hs;have e1:=GM (m:=m) (ts:=[l.aN.A,l.aN.B]) (ns:=[1,-1]) (b:=0) (st:=false) h4 (by simp[hA,hB]);have e2:=GM (m:=m) (ts:=[l.aN.A,l.aN.B]) (ns:=[-1,1]) (b:=0) (st:=false) h4 (by simp[hA,hB]);have e0:uN m [] []=0:=by unfold uN;rfl
 simp only[au,if_false,uN,e0,hs] at e1 e2;rcases az.1 hx with hx|hx;rw[hx];exact e1.2 (by grind);rw[cO] at hx;rw[hx];exact e2.2 (by grind);cases hx
end
end Go.Mod
namespace Go.Mod
open Go.Eng
set_option maxRecDepth 100000
theorem Ib{m:dQ}{a b:ax}(h:qv (value m a)<qv (value m b)):nN m (fa a b):=by
 have e0:uN m [] []=0:=by unfold uN;rfl
 unfold nN fa;split;simp only[Mv,uN,e0,if_true,au,if_false];rw[if_neg (by decide)];grind;simp only[Mv,uN,e0,if_true,au,if_false];rw[if_neg (by decide)];grind
theorem Oh{m:dQ}{a b:ax}(h:value m a=value m b):nN m (jf a b):=by unfold nN jf Bp;simp only[if_true,au,if_false];exact h
theorem Xy{m:dQ}{ab:List bL}(h:∀l∈ab,nN m l):∀e∈br ab,value m e.A=value m e.B:=fun e he=>by obtain⟨l,hl,h1,h2,rfl⟩:=Ha.1 he;have:=h l hl;unfold nN at this;rw[if_pos h1,h2] at this;exact this
section
variable{s:eM}{m:dQ}{ai:List ax}(hm:fS m=true)(h4:ai.length≤4)(hn:∀t∈ai,bG t=true)
include hm h4 hn
theorem RR{ab:List bL}{l:bL}(hf:∀x∈ab,Fit ai x)(hs:∀x∈ab,nN m x)(h1:Fit ai l)(h2:nN m l):(∀x∈ab++[l],Fit ai x)∧(∀x∈ab++[l],nN m x):=by have _:=hm;have _:=h4;have _:=hn;constructor;intro x hx;rcases aO.1 hx with hx|hx;exact hf x hx;rw[cO.1 hx];exact h1;intro x hx;rcases aO.1 hx with hx|hx;exact hs x hx;rw[cO.1 hx];exact h2
end
mutual
theorem Ek{s:eM}{m:dQ}{ai:List ax}(hm:fS m=true)(h4:ai.length≤4)(hn:∀t∈ai,bG t=true):∀(c:eJ)(ab:List bL)(bn:Nat),jA s ai c ab bn=true→(∀l∈ab,Fit ai l)→(∀l∈ab,nN m l)→False
 | .mk k n w ts a b ks,ab,bn,h,hf,hs=>by
  rw[jA] at h;split at h;cases h;split at h;simp only[ah] at h;obtain⟨_,_,h⟩:=h;split at h;rename_i e l he hl;simp only[ah,decide_eq_true_eq] at h;obtain⟨h1,h2,h3,h5⟩:=h;have hv:=(Be (Xy hs) he).1;have hx:=hs l (dH hl);unfold nN at hx;rw[if_pos h2,h1] at hx;simp only[if_true] at hx;exact hx (by rw[←h3,←h5,hv]);cases h;split at h;simp only[ah] at h;refine X4 (aF:=AK m ai) h.2 fun x hx=>?_;obtain⟨l,hl,hx⟩:=List.mem_flatMap.1 hx;exact R2 h4 (hf l hl) (hs l hl) x hx;split at h;simp only[ah] at h;obtain⟨hb,h⟩:=h;split at h;rename_i e he;simp only[ah] at h;obtain⟨hA,hB,_⟩:=rJ.1 h.1;have hv:=(Be (Xy hs) he).1;have hk:ks.length=1:=(by simp only[bare,ah,decide_eq_true_eq] at hb;exact hb.2.2.2.2);obtain⟨g1,g2⟩:=RR hm h4 hn hf hs (K6 hA hB (hn _ hA) (hn _ hB)) (Oh hv);exact xg hm h4 hn ks [ab++[jf e.A e.B]] (bn+1) h.2 (by rw[hk];rfl) _ (by simp) g1 g2;cases h;split at h;simp only[ah] at h;obtain⟨hb,hd,h⟩:=h;obtain⟨hA,hB,lj⟩:=rJ.1 hd;have hk:ks.length=3:=(by simp only[bare,ah,decide_eq_true_eq] at hb;exact hb.2.2.2.2);have key:∀l∈gv a b,Fit ai l→nN m l→False:=fun l hl f1 f2=>by obtain⟨g1,g2⟩:=RR hm h4 hn hf hs f1 f2;exact xg hm h4 hn ks ((gv a b).map fun l=>ab++[l]) (bn+1) h (by rw[hk];rfl) _ (bN.2 ⟨l,hl,rfl⟩) g1 g2
  rcases aa (qv (value m a)<qv (value m b)) with h1|h1;exact key (fa a b) (by simp[gv]) (AX hA hB (hn _ hA) (hn _ hB) lj) (Ib h1);rcases aa (qv (value m b)<qv (value m a)) with h2|h2;exact key (fa b a) (by simp[gv]) (AX hB hA (hn _ hB) (hn _ hA) (Ne.symm lj)) (Ib h2);refine key (jf a b) (by simp[gv]) (K6 hA hB (hn _ hA) (hn _ hB)) (Oh ?_);exact aaE (KK hm a) (KK hm b) (by rw[Rat.not_lt] at h1 h2;exact Rat.le_antisymm h2 h1);cases h
theorem xg{s:eM}{m:dQ}{ai:List ax}(hm:fS m=true)(h4:ai.length≤4)(hn:∀t∈ai,bG t=true):∀(cs:List eJ)(ls:List (List bL))(bn:Nat),kh s ai cs ls bn=true→cs.length=ls.length→∀ab∈ls,(∀l∈ab,Fit ai l)→(∀l∈ab,nN m l)→False
 | [],ls,bn,_,hl,ab,hm',_,_=>by rw[List.eq_nil_of_length_eq_zero hl.symm] at hm';cases hm'
 | c::cs,[],bn,_,hl,_,_,_,_=>by simp at hl
 | c::cs,l::ls,bn,h,hl,ab,hx,hf,hs=>by rw[kh,ah] at h;rcases az.1 hx with rfl|hx;exact Ek hm h4 hn c ab bn h.1 hf hs;exact xg hm h4 hn cs ls bn h.2 (by simpa using hl) ab hx hf hs
end
theorem V9{s:eM}{ab:List bL}{c:eJ}{m:dQ}(h:xk s ab c=true):jH s m ab=false:=by
 cases hm:jH s m ab with
 | false=>rfl
 | true=>simp only[xk,ah] at h;have hf:=xS h.1;obtain⟨h1,h2⟩:=Q6 hm;exact(Ek h1 hf.2.2.1 hf.2.1 c ab 1 h.2 hf.1 h2).elim
mutual
theorem OY{f:Int→Int→ax→List hY→hY×Bool}:∀(w:lH)(d:Nat),(cp f w d).2=true→cp f w (d+1)=cp f w d
 | .mk r n t ks,0,h=>by rw[cp] at h;cases h
 | .mk r n t ks,d+1,h=>by
  rw[cp] at h;rw[cp,cp];cases hk:dC f ks d with
  | none=>rw[hk] at h;cases h
  | some es=>rw[K1 ks d es hk]
theorem K1{f:Int→Int→ax→List hY→hY×Bool}:∀(ws:List lH)(d:Nat)(es:List hY),dC f ws d=some es→dC f ws (d+1)=some es
 | [],d,es,h=>by rw[dC] at h⊢;exact h
 | w::ws,d,es,h=>by
  rw[dC] at h⊢;split at h
  ·rename_i h1;rw[OY w d h1,if_pos h1];cases hr:dC f ws d with
   | none=>rw[hr] at h;cases h
   | some r=>rw[hr] at h;rw[K1 ws d r hr];exact h
  cases h
end
def ly(bB:List hY)(w:lH)(d:Nat)(a b:ax):Prop:=cp (bZ bB) w d=(⟨a,b⟩,true)
theorem ly.up{bB:List hY}{w:lH}{a b:ax}:∀{d d':Nat},d≤d'→ly bB w d a b→ly bB w d' a b
 | d,0,h,hw=>by obtain rfl:d=0:=oM;exact hw
 | d,d'+1,h,hw=>by rcases cz d (d'+1) with h1|h1;have:=ly.up (d':=d') oM hw;unfold ly at this⊢;rw[OY w d' (by rw[this]),this];obtain rfl:d=d'+1:=oM;exact hw
section
variable{bB:List hY}
theorem UG{t:ax}(h:bG t=true):ly bB (.mk 1 0 t []) 1 t t:=by unfold ly;rw[cp,dC];simp[bZ,h]
theorem S7{n:Nat}{e:hY}(h:bB[n]?=some e):ly bB (.mk 2 n aQ []) 1 e.A e.B:=by
 obtain⟨hn,rfl⟩:=bV.1 h;unfold ly;rw[cp,dC];have hw:cK (n:Int) 0 ((bB.length:Int)-1)=true:=by simp[cK];omega
 have h0:isNone aQ=true:=rfl;simp[bZ,hw,h0,List.getD,hn]
theorem XW{w:lH}{d:Nat}{a b:ax}(h:ly bB w d a b):ly bB (.mk 3 0 aQ [w]) (d+1) b a:=by unfold ly at h⊢;rw[cp,dC,h,dC];have h0:isNone aQ=true:=rfl;simp[bZ,h0]
theorem RM{v w:lH}{d:Nat}{a b c:ax}(h1:ly bB v d a b)(h2:ly bB w d b c):ly bB (.mk 4 0 aQ [v,w]) (d+1) a c:=by unfold ly at h1 h2⊢;rw[cp,dC,h1,dC,h2,dC];have h0:isNone aQ=true:=rfl;simp[bZ,h0]
theorem Me{d:Nat}:∀{ws:List lH}{xs ys:List ax},ws.length=xs.length→xs.length=ys.length→(∀(j:Nat)(h1:j<ws.length)(h2:j<xs.length)(h3:j<ys.length),ly bB ws[j] d xs[j] ys[j])→∃es,dC (bZ bB) ws d=some es∧es.length=ws.length∧es.map (·.A)=xs∧es.map (·.B)=ys
 | [],[],[],_,_,_=>⟨[],by rw[dC],rfl,rfl,rfl⟩
 | [],_::_,_,h,_,_=>by simp at h
 | [],[],_::_,_,h,_=>by simp at h
 | _::_,[],_,h,_,_=>by simp at h
 | _::_,_::_,[],_,h,_=>by simp at h
 | w::ws,x::xs,y::ys,h1,h2,hw=>by
  obtain⟨es,e1,e2,e3,e4⟩:=Me (ws:=ws) (xs:=xs) (ys:=ys) (by simpa using h1) (by simpa using h2) (fun j a b c=>by
   have:=hw (j+1) (by simpa using a) (by simpa using b) (by simpa using c)
   simp only[List.getElem_cons_succ] at this
   exact this)
  have h0:=hw 0 (by simp) (by simp) (by simp);unfold ly at h0;simp only[List.getElem_cons_zero] at h0;refine⟨⟨x,y⟩::es,?_,by simp[e2],by simp[e3],by simp[e4]⟩;rw[dC,h0,e1];rfl
theorem VL{name:pL}{ws:List lH}{xs ys:List ax}{d:Nat}(hn:gO name=true)(h0:0<ws.length)(h1:ws.length=xs.length)(h2:xs.length=ys.length)(hx:bG (.mk name xs)=true)(hy:bG (.mk name ys)=true)
 (hw:∀(j:Nat)(h1:j<ws.length)(h2:j<xs.length)(h3:j<ys.length),ly bB ws[j] d xs[j] ys[j]):ly bB (.mk 5 0 (.mk name []) ws) (d+1) (.mk name xs) (.mk name ys):=by
 obtain⟨es,e1,e2,e3,e4⟩:=Me h1 h2 hw
 unfold ly
 rw[cp,e1]
 have hl:¬es.length=0:=oM
 have hl':es≠[]:=fun e=>hl (by rw[e];rfl)
 simp[bZ,ax.name,ax.ar,hn,hl',e3,e4,hx,hy]
theorem FP{one:Edge→lH}{ao:List Step}{P:Nat→ax}{d:Nat}{x:ax}:∀(es:List Edge)(w:lH)(d':Nat)(v b:Nat),d≤d'→ly bB w d' x (P v)→r7 ao v es b→(∀e∈es,ly bB (one e) d (P (jc ao e)) (P (jQ ao e)))→ly bB (qP one w es) (d'+es.length) x (P b)
 | [],w,d',v,b,_,hw,hp,_=>by rw[r7] at hp;rw[qP,←hp];exact hw
 | e::es,w,d',v,b,hd,hw,hp,ho=>by rw[r7] at hp;rw[qP];have h1:=RM hw ((hp.1▸ho e (by simp)).up hd);have:=FP es _ (d'+1) (jQ ao e) b oM h1 hp.2 fun y hy=>ho y (by simp[hy]);rw[aY,show d'+(es.length+1)=d'+1+es.length by omega];exact this
end
section
variable{al:List ax}{bB:List hY}{ao:List Step}(fy:nJ al bB ao)
include fy
theorem Mh{k:Nat}(hk:k≤ao.length){a b:Nat}(ha:a<al.length)(hb:b<al.length)(h:cl (a6 al.length ao k) a=cl (a6 al.length ao k) b) :
 ∀e∈n7 al.length ao k a b,e.step<k∧cl (a6 al.length ao k) (jc ao e)=cl (a6 al.length ao k) a∧cl (a6 al.length ao k) (jQ ao e)=cl (a6 al.length ao k) a:=by
 obtain⟨h1,h2,h3⟩:=vo fy hk ha hb h
 intro e he
 have hv:=rK fy hk h1 h2 (jQ ao e) (by unfold jl;exact List.mem_cons_of_mem _ (bN.2 ⟨e,he,rfl⟩))
 have hs:=GR fy hk (h1 e he)
 exact⟨h1 e he,by rw[hs,hv],hv⟩
theorem Ca:∀{k:Nat},k≤ao.length→∀{a b:Nat},a<al.length→b<al.length→cl (a6 al.length ao k) a=cl (a6 al.length ao k) b→((n7 al.length ao k a b).map Edge.step).Nodup
 | 0,_,a,b,_,_,_=>by simp[n7]
 | k+1,hk,a,b,ha,hb,h=>by have hk':k≤ao.length:=oM;rw[U4 oM ha hb] at h;have hA:=KF fy (k:=k) oM;have hB:=Lf fy (k:=k) oM;have lj:=(qR fy (k:=k) oM).ne;have disj:∀{x y u v:Nat},x<al.length→y<al.length→u<al.length→v<al.length→cl (a6 al.length ao k) x=cl (a6 al.length ao k) y→cl (a6 al.length ao k) u=cl (a6 al.length ao k) v→cl (a6 al.length ao k) x≠cl (a6 al.length ao k) u→∀bk,((n7 al.length ao k x y++⟨k,bk⟩::n7 al.length ao k u v).map Edge.step).Nodup:=(by intro x y u v hx hy hu hv h1 h2 h3 bk;have p1:=Mh fy hk' hx hy h1;have p2:=Mh fy hk' hu hv h2;rw[List.map_append,aV,List.nodup_append];refine⟨Ca hk' hx hy h1,da.2 ⟨fun hm=>?_,Ca hk' hu hv h2⟩,fun s hs t ht e=>?_⟩;obtain⟨e,he,e1⟩:=bN.1 hm;have e1':e.step=k:=e1;have:=(p2 e he).1;omega;subst e;obtain⟨e1,he1,q1⟩:=bN.1 hs;rcases az.1 ht with ht|ht;have ht':s=k:=ht;have:=(p1 e1 he1).1;omega;obtain⟨e2,he2,q2⟩:=bN.1 ht;obtain⟨_,a1,a2⟩:=p1 e1 he1;obtain⟨_,b1,b2⟩:=p2 e2 he2;have ld:e1.step=e2.step:=(by rw[q1,q2]);refine h3 ?_;rw[←a1,←b1];have es:jc ao e1=jc ao e2∨jc ao e1=jQ ao e2:=(by unfold jc jQ;rw[ld];cases e1.back<;>cases e2.back<;>simp);rcases es with es|es;rw[es];rw[es,b2,b1]);rw[n7];rcases aa (cl (a6 al.length ao k) a=cl (a6 al.length ao k) b) with h1|h1;rw[if_pos h1];exact Ca hk' ha hb h1;rw[if_neg h1];rcases h with h|⟨h,h'⟩|⟨h,h'⟩;exact(h1 h).elim;rw[if_pos (show _=cl _ (jC ao k).A.toNat from h)];exact disj ha hA hB hb h h'.symm (by rw[h];exact lj) false;rw[if_neg (show ¬_=cl _ (jC ao k).A.toNat from fun x=>lj (by rw[←x];exact h))];exact disj ha hB hA hb h h'.symm (by rw[h];exact lj.symm) true
theorem acU{k:Nat}(hk:k≤ao.length){a b:Nat}(ha:a<al.length)(hb:b<al.length)(h:cl (a6 al.length ao k) a=cl (a6 al.length ao k) b):(n7 al.length ao k a b).length≤k:=by
 have h1:=Ca fy hk ha hb h;have h2:=mg (N:=k) h1 fun v hv=>by obtain⟨e,he,rfl⟩:=bN.1 hv;exact(Mh fy hk ha hb h e he).1
 simpa using h2
end
def qQ:Nat→Nat
 | 0=>1
 | k+1=>qQ k+2+k
theorem AN:∀{j k:Nat},j≤k→qQ j≤qQ k
 | j,0,h=>by obtain rfl:j=0:=oM;exact aK _
 | j,k+1,h=>by rcases cz j (k+1) with h1|h1;have:=AN (j:=j) (k:=k) oM;rw[qQ];omega;obtain rfl:j=k+1:=oM;exact aK _
theorem YG:qQ 24≤400:=by decide
theorem LJ:∀k,1≤qQ k
 | 0=>aK _
 | k+1=>by have:=LJ k;rw[qQ];omega
theorem Yw{al:List ax}{c:List Nat}{a b:Nat}(h:alike al c a b=true):0<(al.getD a aQ).ar.length∧(al.getD a aQ).name=(al.getD b aQ).name∧nQ al c (al.getD a aQ).ar (al.getD b aQ).ar=true:=by simp only[alike,ah,decide_eq_true_eq] at h;exact h
theorem B5{al:List ax}{t:ax}(h:t∈al):al.getD (aM al t) aQ=t:=by rw[getD_at (bT h)];exact(bV.1 (kz h)).2
section
variable{al:List ax}{bB:List hY}{ao:List Step}(fy:nJ al bB ao)(Zm:jv al)(htm:∀t∈al,bG t=true)(kI:∀e∈bB,e.A∈al∧e.B∈al)
include fy Zm htm kI
theorem Lx:∀(f n a b:Nat),n<f→n≤ao.length→a<al.length→b<al.length→cl (a6 al.length ao n) a=cl (a6 al.length ao n) b→ly bB (nk al ao f n a b) (qQ n) (al.getD a aQ) (al.getD b aQ)
 | 0,n,_,_,h,_,_,_,_=>by omega
 | f+1,n,a,b,hf,hn,ha,hb,hc=>by
  have hPt:∀i,i<al.length→bG (al.getD i aQ)=true:=fun i hi=>by rw[getD_at hi];exact htm _ (aj hi)
  have hPm:∀i,i<al.length→al.getD i aQ∈al:=fun i hi=>by rw[getD_at hi];exact aj hi
  obtain⟨w1,w2,w3⟩:=vo fy hn ha hb hc;have eO:=acU fy hn ha hb hc;have hedge:∀e,e.step<n→∃n',n=n'+1∧ly bB (mP al ao (nk al ao f) e) (qQ n'+2) (al.getD (jc ao e) aQ) (al.getD (jQ ao e) aQ):=fun e he=>by
   obtain⟨n',rfl⟩:∃n',n=n'+1:=⟨n-1,oM⟩;refine⟨n',rfl,?_⟩;have hs:=qR fy (k:=e.step) oM;have base:ly bB (if(jC ao e.step).given<0 then .mk 5 0 (.mk (al.getD (jC ao e.step).A.toNat aQ).name []) (((al.getD (jC ao e.step).A.toNat aQ).ar.zip (al.getD (jC ao e.step).B.toNat aQ).ar).map fun p=>nk al ao f e.step (aM al p.1) (aM al p.2)) else .mk 2 (jC ao e.step).given aQ []) (qQ n'+1) (al.getD (jC ao e.step).A.toNat aQ) (al.getD (jC ao e.step).B.toNat aQ):=by rcases hs.how with⟨h1,h2⟩|⟨m,h1,q,h2,h3,h4⟩;rw[if_pos oM];obtain⟨k0,k1,k2⟩:=Yw h2;obtain⟨k3,k4⟩:=Gp k2;have tA:=hPt _ hs.a1;have tB:=hPt _ hs.b1;have mA:=Zm _ (hPm _ hs.a1);have mB:=Zm _ (hPm _ hs.b1);generalize al.getD (jC ao e.step).A.toNat aQ=tA0 at *;generalize al.getD (jC ao e.step).B.toNat aQ=tB0 at *;obtain⟨nA,kA⟩:=tA0;obtain⟨nB,kB⟩:=tB0;have k1:nA=nB:=k1;subst k1;have k0:0<kA.length:=k0;have k3:kA.length=kB.length:=k3;have mA:∀k∈kA,k∈al:=mA;have mB:∀k∈kB,k∈al:=mB;show ly bB (.mk 5 0 (.mk nA []) ((kA.zip kB).map fun p=>nk al ao f e.step (aM al p.1) (aM al p.2))) (qQ n'+1) (.mk nA kA) (.mk nA kB);refine VL (TB tA) (by simp;omega) (by simp;omega) k3 tA tB fun j j1 j2 j3=>?_;simp only[List.getElem_map,List.getElem_zip];have xA:=mA _ (aj j2);have xB:=mB _ (aj j3);have:=Lx f e.step (aM al kA[j]) (aM al kB[j]) oM oM (bT xA) (bT xB) (k4 j j2 j3);rw[B5 xA,B5 xB] at this;exact this.up (AN oM);rw[if_neg oM,h1,h3,h4];simp only[Int.toNat_natCast];have hq:=kI q (dH h2);rw[B5 hq.1,B5 hq.2];exact(S7 h2).up oM
   unfold mP jc jQ vA vB;simp only;cases e.back with
   | true=>exact XW base
   | false=>exact base.up oM
  rw[nk];cases hw:n7 al.length ao n a b with
  | nil=>rw[hw,r7] at w2;rw[←w2];exact(UG (hPt a ha)).up (LJ n)
  | cons e es=>
   rw[hw] at w1 w2 eO;rw[r7] at w2;obtain⟨n',hn',h1⟩:=hedge e (w1 e (by simp));subst hn';rw[w2.1] at h1;have nq:∀x∈es,ly bB (mP al ao (nk al ao f) x) (qQ n'+2) (al.getD (jc ao x) aQ) (al.getD (jQ ao x) aQ):=fun x hx=>by obtain⟨n2,e2,h2⟩:=hedge x (w1 x (by simp[hx]));obtain rfl:n2=n':=oM;exact h2
   have:=FP (P:=fun i=>al.getD i aQ) es _ (qQ n'+2) (jQ ao e) b (aK _) h1 w2.2 nq;simp only[aY] at eO;refine this.up ?_;rw[qQ];omega
end
end Go.Mod
namespace Go.Mod
open Go.Eng
set_option maxRecDepth 100000
def Uy(n:Nat)(c:List Nat):Prop:=c.length=n∧∀i,i<n→cl c i<n∧cl c (cl c i)=cl c i
def Mo(c:List Nat):List Nat:=(bK c.length).filter fun i=>decide (cl c i=i)
theorem AU{c:List Nat}{i:Nat}:i∈Mo c↔i<c.length∧cl c i=i:=by simp[Mo]
theorem Kg(c:List Nat):(Mo c).Nodup:=List.nodup_range.filter _
theorem Sv{n:Nat}{c:List Nat}{a b:Nat}(h:Uy n c)(ha:a<n)(hb:b<n)(lj:cl c a≠cl c b):Uy n (iw c a b)∧(Mo (iw c a b)).length+1≤(Mo c).length:=by
 obtain⟨hl,hr⟩:=h;have hA:=hr a ha;have hB:=hr b hb;obtain⟨mx,hmx⟩:∃mx,max (cl c a) (cl c b)=mx:=⟨_,rfl⟩;obtain⟨mn,hmn⟩:∃mn,min (cl c a) (cl c b)=mn:=⟨_,rfl⟩;have hmxn:mx<n∧cl c mx=mx∧mn<n∧cl c mn=mn∧mn≠mx:=by rcases cz (cl c a) (cl c b) with h1|h1;have e1:mx=cl c b:=oM;have e2:mn=cl c a:=oM;rw[e1,e2];exact⟨hB.1,hB.2,hA.1,hA.2,lj⟩;have e1:mx=cl c a:=oM;have e2:mn=cl c b:=oM;rw[e1,e2];exact⟨hA.1,hA.2,hB.1,hB.2,fun e=>lj e.symm⟩
 obtain⟨x1,x2,x3,x4,x5⟩:=hmxn;have hj:∀i,i<n→cl (iw c a b) i=if cl c i=mx then mn else cl c i:=fun i hi=>by rw[Bm oM,hmx,hmn]
 refine⟨⟨by rw[hU,hl],fun i hi=>?_⟩,?_⟩;rw[hj i hi];obtain⟨r1,r2⟩:=hr i hi;split;exact⟨x3,by rw[hj mn x3,x4,if_neg x5]⟩;rename_i h1;exact⟨r1,by rw[hj _ r1,r2,if_neg h1]⟩;have hs:∀i∈mx::Mo (iw c a b),i∈Mo c:=by intro i hi;rcases az.1 hi with rfl|hi;exact AU.2 ⟨oM,x2⟩;obtain⟨h1,h2⟩:=AU.1 hi;rw[hU] at h1;rw[hj i oM] at h2;split at h2;rename_i h3;rw[←h2,x4] at h3;exact absurd h3 x5;exact AU.2 ⟨h1,h2⟩
 have hn:(mx::Mo (iw c a b)).Nodup:=by refine da.2 ⟨fun hm=>?_,Kg _⟩;have:=(AU.1 hm).2;rw[hj mx x1,if_pos x2] at this;exact x5 this
 simpa using Ls hn hs
theorem El{al:List ax}{bB:List hY}{ao:List Step}(fy:nJ al bB ao):∀k,k≤ao.length→Uy al.length (a6 al.length ao k)∧(Mo (a6 al.length ao k)).length+k≤al.length
 | 0,_=>by
  have e:∀i,i<al.length→cl (a6 al.length ao 0) i=i:=fun i hi=>by rw[jt (by rw[ke];exact hi)];simp[a6]
  refine⟨⟨ke ..,fun i hi=>by rw[e i hi];exact⟨hi,e i hi⟩⟩,?_⟩;have:=mg (N:=al.length) (Kg (a6 al.length ao 0)) fun v hv=>by
   have:=(AU.1 hv).1
   rwa [ke] at this
  omega
 | k+1,hk=>by
  obtain⟨h1,h2⟩:=El fy k oM;have hs:=qR fy (k:=k) oM;rw[WW oM];obtain⟨h3,h4⟩:=Sv h1 hs.a1 hs.b1 hs.ne;exact⟨h3,by
   have h4':(Mo (iw (a6 al.length ao k) (vA ao k) (vB ao k))).length+1≤(Mo (a6 al.length ao k)).length:=h4
   omega⟩
theorem acD{al:List ax}{bB:List hY}(kI:∀e∈bB,e.A∈al∧e.B∈al):(closed al bB).2.length≤al.length:=by have:=(El (oL kI).1 _ (aK _)).2;omega
theorem Jf{al:List ax}{bB:List hY}(Zm:jv al)(htm:∀t∈al,bG t=true)(kI:∀e∈bB,e.A∈al∧e.B∈al)(h24:al.length≤24){a b:ax}(ha:a∈al)(hb:b∈al)(hc:ix al (closed al bB).1 a b=true) :
 ly bB (oi al (closed al bB).2 a b) 400 a b:=by
 have hk:=oL kI
 have hs:=acD kI
 have hc':=of_decide_eq_true hc
 rw[hk.2] at hc'
 have:=Lx hk.1 Zm htm kI ((closed al bB).2.length+1) (closed al bB).2.length (aM al a) (aM al b) oM (aK _) (bT ha) (bT hb) hc'
 rw[B5 ha,B5 hb] at this
 exact this.up (Nat.le_trans (AN (show _≤24 by omega)) YG)
theorem R4{s:eM}{bB:List hY}{w:lH}{a b:ax}(h1:pC s bB=true)(h2:pC s [⟨a,b⟩]=true)(h:ly bB w 400 a b):mc s bB w=some ⟨a,b⟩:=by unfold ly at h;unfold mc;rw[h1,h];simp[h2]
structure KM(s:eM)(ab:List bL):Prop where
 AL:jK s ab
 one:∀l∈ab,l.aN.kind=1→iP s ⟨l.aN.A,l.aN.B⟩=true
theorem KM.bB{s:eM}{ab:List bL}(h:KM s ab):∀e∈br ab,iP s e=true:=fun e he=>by obtain⟨l,hl,h1,_,rfl⟩:=Ha.1 he;exact h.one l hl h1
theorem adb{s:eM}{ab:List bL}(h:gn s ab=true):KM s ab:=⟨LD h,fun l hl hk=>by have:=Sb h l hl;simp only[gr,hk,if_true,ah] at this;exact this.2.2⟩
theorem KM.pC{s:eM}{ab:List bL}(h:KM s ab)(h12:(br ab).length≤12):pC s (br ab)=true:=by
 have hg:=h.AL;have hi:∀t∈s6 (br ab),t∈aL ab:=fun t ht=>by obtain⟨e,he,h1⟩:=O3.1 ht;obtain⟨h2,h3⟩:=hg.ER e he;rcases h1 with rfl|rfl;exact h2;exact h3
 have h1:=TM (ts:=s6 (br ab)) (fun t ht=>hg.term t (hi t ht)) hg.ar hi;simp only[Mod.pC,ah,decide_eq_true_eq,cV];exact⟨⟨⟨hg.sig,h12⟩,h.bB⟩,by have:=hg.n24;omega⟩
theorem KM.ah1{s:eM}{ab:List bL}(h:KM s ab){a b:ax}(ha:a∈aL ab)(hb:b∈aL ab)(hs:iP s ⟨a,b⟩=true):Mod.pC s [⟨a,b⟩]=true:=by
 have hg:=h.AL;have hi:∀t∈s6 [(⟨a,b⟩:hY)],t∈aL ab:=fun t ht=>by obtain⟨e,he,h1⟩:=O3.1 ht;rw[cO] at he;subst he;rcases h1 with rfl|rfl;exact ha;exact hb
 have h1:=TM (ts:=s6 [(⟨a,b⟩:hY)]) (fun t ht=>hg.term t (hi t ht)) hg.ar hi;simp only[Mod.pC,ah,decide_eq_true_eq,cV];exact⟨⟨⟨hg.sig,by simp⟩,fun e he=>by rw[cO.1 he];exact hs⟩,by have:=hg.n24;omega⟩
theorem Tt{s:eM}{ab:List bL}{t:ax}(h:t∈aG s ab):gK s t=some 1:=of_decide_eq_true (List.mem_filter.1 h).2
theorem Az{s:eM}{ab:List bL}{a b:ax}(ha:a∈aG s ab)(hb:b∈aG s ab):iP s ⟨a,b⟩=true:=by simp[iP,Tt ha,Tt hb]
theorem KM.more{s:eM}{ab:List bL}{l:bL}(h:KM s ab)(hn:Next s ab l)(he:l.aN.kind=1→iP s ⟨l.aN.A,l.aN.B⟩=true):KM s (ab++[l]):=by refine⟨hn.1,fun x hx=>?_⟩;rcases aO.1 hx with hx|hx;exact h.one x hx;rw[cO.1 hx];exact he
theorem Fi(a b:ax):(fa a b).aN.kind=2:=by unfold fa;split<;>rfl
theorem ae7{aS:List j8}(h:(cE aS).code=1):vY aS (cE aS).a8=true:=by
 have hend:∀s0 s1 s2 s3 aw,(jS aS s0 s1 s2 s3 aw).code=1→vY aS (jS aS s0 s1 s2 s3 aw).a8=true:=fun s0 s1 s2 s3 aw h=>by unfold jS at h⊢;split at h;split at h;rename_i hf;rw[if_pos hf];exact hf;simp at h;split at h;simp at h;split at h<;>simp at h
 unfold cE at h⊢;split at h;rename_i hs;rw[if_pos hs];split at h;simp at h;split at h;simp at h;split at h;simp at h;split at h;simp at h;exact hend _ _ _ _ _ h;simp at h
theorem S8{run:List bL→FY}{a b:ax}:∀{ls:List (List bL)}{out:List eJ},(yg run a b ls out).code=1→(yg run a b ls out).case= .mk 4 0 wv [] a b (out++ls.map fun l=>(run l).case)∧∀l∈ls,(run l).code=1
 | [],out,_=>⟨by rw[BQ];simp,by simp⟩
 | l::ls,out,h=>by rw[yX] at h⊢;rcases aa ((run l).code=1) with h1|h1;rw[if_pos h1] at h⊢;obtain⟨i1,i2⟩:=S8 h;refine⟨by rw[i1];simp,fun x hx=>?_⟩;rcases az.1 hx with rfl|hx;exact h1;exact i2 x hx;rw[if_neg h1] at h;exact absurd h h1
theorem HF{s:eM}{ai:List ax}{g:List bL→eJ}{bn:Nat}:∀{ls:List (List bL)},(∀l∈ls,jA s ai (g l) l bn=true)→kh s ai (ls.map g) ls bn=true
 | [],_=>by rw[dS,kh];· intros;contradiction
 | l::ls,h=>by rw[aV,kh,ah];exact⟨h l (by simp),HF fun x hx=>h x (by simp[hx])⟩
theorem KN{s:eM}:∀(f:Nat)(ab:List bL)(bn:Nat),KM s ab→bn+f≤14→(mL s (aL ab) (aG s ab) f ab).code=1→jA s (aG s ab) (mL s (aL ab) (aG s ab) f ab).case ab bn=true
 | 0,ab,_,_,_,h=>by simp[mL,Ds] at h
 | f+1,ab,bn,hF,hd,h=>by
  have hg:=hF.AL;have hdeep:¬14<bn:=oM;have n0:isNone aQ=true:=rfl;rcases aa (12<(br ab).length) with h12|h12;rw[EB h12] at h;simp[Ds] at h;have hE:=hF.pC oM;have hwhy:∀{a b:ax},a∈aL ab→b∈aL ab→iP s ⟨a,b⟩=true→ix (aL ab) (closed (aL ab) (br ab)).1 a b=true→mc s (br ab) (oi (aL ab) (closed (aL ab) (br ab)).2 a b)=some ⟨a,b⟩:=fun ha hb hs hc=>
   R4 hE (hF.ah1 ha hb hs) (Jf hg.ar hg.term hg.ER hg.n24 ha hb hc)
  cases hc:nE (lV (aL ab) (closed (aL ab) (br ab)).1) ab with
  | some n=>rw[BK h12 hc];obtain⟨hn,hp⟩:=Fl hc;have hgd:ab.getD n Gq=ab[n]:=getD_at hn;simp only[lV,ah,decide_eq_true_eq] at hp;obtain⟨p1,p2,p3⟩:=hp;have hm:=aj hn;obtain⟨hA,hB⟩:=hg.Rl _ hm p2;have hw:=hwhy hA hB (hF.one _ hm p2) p3;rw[hgd,jA,if_neg hdeep,if_pos rfl,hw];have hw2:cK (n:Int) 0 ((ab.length:Int)-1)=true:=(by simp[cK];omega);simp[bare,eJ.n,eJ.tq,eJ.ar,eJ.A,eJ.B,eJ.a8,n0,hw2,hn,p1,p2]
  | none=>
  rcases aa ((cE (fN (aG s ab) ab)).code=1) with h1|h1;rw[FE h12 hc h1,jA,if_neg hdeep];simp[bare,eJ.n,eJ.tq,eJ.ar,eJ.A,eJ.B,n0,ae7 h1];rcases aa ((cE (fN (aG s ab) ab)).code=0) with h0|h0
  ·cases hp:dj (aG s ab).length (fU true (aL ab) (aG s ab) (closed (aL ab) (br ab)).1 ab) with
   | some q=>
    rw[Eb h12 hc h0 hp] at h⊢;obtain⟨q1,q2,q3⟩:=nf hp;have hn:=Jr hg q1 q2 (uU q3);have m1:(aG s ab).getD q.1 aQ∈aG s ab:=oO oM;have m2:(aG s ab).getD q.2 aQ∈aG s ab:=oO q2;have lj:=D3 hg q1 q2;have hsm:ix (aL ab) (closed (aL ab) (br ab)).1 ((aG s ab).getD q.1 aQ) ((aG s ab).getD q.2 aQ)=true:=(by simp only[fU,if_true,ah] at q3;exact q3.2);have hw:=hwhy (rr _ m1) (rr _ m2) (Az m1 m2) hsm;generalize (aG s ab).getD q.1 aQ=a at *;generalize (aG s ab).getD q.2 aQ=b at *;unfold H0 at h⊢;rcases aa ((mL s (aL ab) (aG s ab) f (ab++[jf a b])).code=1) with hr|hr
    ·rw[if_pos hr,jA,if_neg hdeep];have hF':=hF.more hn fun _=>Az m1 m2;obtain⟨n1,n2,n3,_⟩:=hn;have ih:=KN f (ab++[jf a b]) (bn+1) hF' oM (by rw[n2,n3];exact hr);rw[n2,n3] at ih;have hdf:differ (aG s ab) a b=true:=rJ.2 ⟨m1,m2,lj⟩;rw[if_neg (by decide),if_neg (by decide),if_pos rfl,hw];have hkk:kh s (aG s ab) [(mL s (aL ab) (aG s ab) f (ab++[jf a b])).case] [ab++[jf a b]] (bn+1)=true:=(by rw[kh,ih,kh];rfl;intros;contradiction);simp[bare,eJ.n,eJ.tq,eJ.ar,eJ.A,eJ.B,eJ.a8,n0,hdf,hkk]
    rw[if_neg hr] at h;exact absurd h hr
   | none=>
   cases hq:dj (aG s ab).length (fU false (aL ab) (aG s ab) (closed (aL ab) (br ab)).1 ab) with
   | some q=>
    rw[yh h12 hc h0 hp hq] at h⊢;obtain⟨q1,q2,q3⟩:=nf hq;have hn:=AP hg q1 q2 (zj q3);have m1:(aG s ab).getD q.1 aQ∈aG s ab:=oO oM;have m2:(aG s ab).getD q.2 aQ∈aG s ab:=oO q2;have lj:=D3 hg q1 q2;generalize (aG s ab).getD q.1 aQ=a at *;generalize (aG s ab).getD q.2 aQ=b at *;obtain⟨p1,p2⟩:=S8 h;rw[p1,jA,if_neg hdeep];have nq:kh s (aG s ab) (((gv a b).map fun l=>ab++[l]).map fun l=>(mL s (aL ab) (aG s ab) f l).case) ((gv a b).map fun l=>ab++[l]) (bn+1)=true:=by
     refine HF fun L hL=>?_;obtain⟨l,hl,rfl⟩:=bN.1 hL;have hnl:=hn l hl;have hF':=hF.more hnl fun hk=>by simp only[gv,az,List.not_mem_nil,or_false] at hl;rcases hl with rfl|rfl|rfl;exact Az m1 m2;rw[Fi] at hk;omega;rw[Fi] at hk;omega
     obtain⟨n1,n2,n3,_⟩:=hnl;have ih:=KN f (ab++[l]) (bn+1) hF' oM (by rw[n2,n3];exact p2 _ hL);rw[n2,n3] at ih;exact ih
    have hdf:differ (aG s ab) a b=true:=rJ.2 ⟨m1,m2,lj⟩;rw[if_neg (by decide),if_neg (by decide),if_neg (by decide),if_pos rfl,List.nil_append,nq,hdf];simp[bare,eJ.n,eJ.tq,eJ.ar,eJ.A,eJ.B,eJ.a8,gv]
   | none=>rw[BI h12 hc h0 hp hq] at h;split at h<;>simp[Ds] at h
  rw[Fg h12 hc h1 h0] at h;simp[Ds] at h
theorem NR{s:eM}{ab:List bL}(h:(eh s ab).code=1):xk s ab (eh s ab).case=true:=by
 have hb:gn s ab=true:=by
  cases hb:gn s ab with
  | true=>rfl
  | false=>simp[eh,hb] at h
 have e:eh s ab=mL s (aL ab) (aG s ab) 13 ab:=by simp[eh,hb]
 rw[e] at h⊢;rw[xk,hb,KN 13 ab 1 (adb hb) oM h];rfl
theorem Uc{s:eM}{ab:List bL}(h:(eh s ab).code=1)(m:dQ):jH s m ab=false:=V9 (NR h)
theorem OB{s:eM}{ab:List bL}:(eh s ab).code=3↔gn s ab=false:=by
 have lj:∀(f:Nat)(l:List bL),(mL s (aL ab) (aG s ab) f l).code≠3:=by
  intro f;induction f with
  | zero=>intro l;simp[mL,Ds]
  | succ f ih=>
   intro l;have hpart:∀(ls:List (List bL))(a b:ax)(out:List eJ),(yg (mL s (aL ab) (aG s ab) f) a b ls out).code≠3:=by
    intro ls;induction ls with
    | nil=>intro a b out;rw[BQ];simp
    | cons x xs ih2=>intro a b out;rw[yX];split;exact ih2 _ _ _;exact ih x
   rcases aa (12<(br l).length) with h12|h12;rw[EB h12];simp[Ds];cases hc:nE (lV (aL ab) (closed (aL ab) (br l)).1) l with
   | some n=>rw[BK h12 hc];simp
   | none=>
   rcases aa ((cE (fN (aG s ab) l)).code=1) with h1|h1;rw[FE h12 hc h1];simp;rcases aa ((cE (fN (aG s ab) l)).code=0) with h0|h0
   ·cases hp:dj (aG s ab).length (fU true (aL ab) (aG s ab) (closed (aL ab) (br l)).1 l) with
    | some q=>rw[Eb h12 hc h0 hp];unfold H0;split;simp;exact ih _
    | none=>
    cases hq:dj (aG s ab).length (fU false (aL ab) (aG s ab) (closed (aL ab) (br l)).1 l) with
    | some q=>rw[yh h12 hc h0 hp hq];exact hpart _ _ _ _
    | none=>rw[BI h12 hc h0 hp hq];split<;>simp[Ds]
   rw[Fg h12 hc h1 h0];simp[Ds]
 cases hb:gn s ab with
 | true=>have e:eh s ab=mL s (aL ab) (aG s ab) 13 ab:=(by simp[eh,hb]);rw[e];exact⟨fun h=>absurd h (lj 13 ab),fun h=>by cases h⟩
 | false=>simp[eh,hb]
end Go.Mod
