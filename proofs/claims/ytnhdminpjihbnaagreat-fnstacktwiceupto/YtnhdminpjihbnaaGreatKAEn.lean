/-
  Plain laws: what has a reason that it can not be is so in no model. No program is walked here.
-/
import Derived.Test.YtnhdminpjihbnaaGreatKAEm
set_option linter.unusedVariables false
set_option linter.unusedSimpArgs false
open Bool renaming and_eq_true→ab,false_eq_true→aw
open Classical renaming em→aa
open List renaming getElem_mem→ah,mem_cons→ax,getD_eq_getElem?_getD→aE,length_cons→aG,map_cons→aJ,mem_append→aM,all_eq_true→bh,mem_map→bq,mem_singleton→bx,getElem?_eq_some_iff→bP,range→cK,map_nil→cL,mem_filter→cX,mem_of_getElem?→du,nodup_cons→gz
open Nat renaming le_refl→aH,lt_or_ge→b7
open Option renaming map_some→dV
namespace Go.Mod
open Go.Eng
set_option maxRecDepth 100000
def uw(m:dZ):List az→List Int→QQ
 | t::ts,n::ns=>n*qv (value m t)+uw m ts ns
 | _,_=>0
def L4(m:dZ)(a:bz):Prop:=if a.cz then uw m a.an a.bt<a.bJ else uw m a.an a.bt≤a.bJ
def nW(m:dZ)(l:cC):Prop:=if l.aY.kind=1 then(if l.no then value m l.aY.A≠value m l.aY.B else value m l.aY.A=value m l.aY.B) else(if l.no then ¬L4 m l.aY else L4 m l.aY)
theorem MF{m:dZ}:∀{ts:List az}{ns:List Int}{s r:Rat},wu m ts ns s=some r→eC s=true→qv r=qv s+uw m ts ns∧eC r=true
 | [],ns,s,r,h,hs=>by have e0:wu m [] ns s=some s:=(by unfold wu;rfl);rw[e0] at h;cases h;have e:uw m [] ns=0:=(by unfold uw;rfl);exact⟨by rw[e];grind,hs⟩
 | t::ts,[],s,r,h,hs=>by have e0:wu m (t::ts) [] s=some s:=(by unfold wu;rfl);rw[e0] at h;cases h;have e:uw m (t::ts) []=0:=(by unfold uw;rfl);exact⟨by rw[e];grind,hs⟩
 | t::ts,n::ns,s,r,h,hs=>by rw[wu] at h;split at h;rename_i hp;have h1:=Y1 hp;have h2:=MF h h1.2;exact⟨by rw[h2.1,h1.1,uw];grind,h2.2⟩;cases h
theorem adE{a:bz}(h:dh a=true)(k2:a.kind=2):-1000000000≤a.bJ∧a.bJ≤1000000000:=by have hk:¬a.kind=1:=oM;simp only[dh,if_neg hk,if_pos k2,ab,c8,decide_eq_true_eq] at h;have:=h.2.2.2.2.1;omega
theorem ZF{s:eV}{m:dZ}{l:cC}(h:gj s m l=some true):nW m l:=by
 unfold gj at h;split at h
 ·rename_i hc;simp only[ab,hU] at hc;have hwf:=hc.2.2.1;unfold nW;unfold tM at h;rcases aa (l.aY.kind=1) with hk|hk
  ·rw[if_pos hk] at h⊢;simp only[dV,Option.some.injEq] at h;cases hn:l.no with
   | true=>rw[hn] at h;simpa using h
   | false=>rw[hn] at h;simpa using h
  rw[if_neg hk] at h⊢;have k2:=(nM hwf).resolve_left hk;cases hs:wu m l.aY.an l.aY.bt (whole 0) with
  | none=>rw[hs] at h;cases h
  | some r=>
   rw[hs] at h;simp only[dV,Option.some.injEq] at h;have h1:=MF hs (xV oM oM);have h2:=YR (st:=l.aY.cz) h1.2 (adE hwf k2);rw[h1.1,AH] at h2;have e:((0:Int):QQ)+uw m l.aY.an l.aY.bt=uw m l.aY.an l.aY.bt:=(by grind);rw[e] at h2;have h3:below r l.aY.bJ l.aY.cz=true↔L4 m l.aY:=h2;cases hn:l.no with
   | true=>rw[hn] at h;simp only[if_true];rw[←h3];intro hx;rw[hx] at h;simp at h
   | false=>rw[hn] at h;simp only[aw,if_false];rw[←h3];simpa using h
 cases h
theorem QT{s:eV}{m:dZ}{af:List cC}(h:gK s m af=true):jk m=true∧∀l∈af,nW m l:=by simp only[gK,ly,ab,bh,decide_eq_true_eq] at h;exact⟨h.1.2.1,fun l hl=>ZF (h.2 l hl)⟩
section
variable{m:dZ}{dx:List lH}(hE:∀e∈dx,value m e.A=value m e.B)
include hE
theorem Tw{r n:Int}{t:az}{ar:List lH}(hk:∀e∈ar,value m e.A=value m e.B)(h:(qM dx r n t ar).2=true):value m (qM dx r n t ar).1.A=value m (qM dx r n t ar).1.B:=by unfold qM at h⊢;split at h;cases h;rename_i c0;rw[if_neg c0];split at h;rename_i c1;rw[if_pos c1];rename_i c1;rw[if_neg c1];split at h;rename_i c2;rw[if_pos c2];split at h;cases h;rename_i c3;rw[if_neg c3];simp only;rcases b7 n.toNat dx.length with hl|hl;rw[ji hl];exact hE _ (ah hl);rw[aE,List.getElem?_eq_none hl];rfl;rename_i c2;rw[if_neg c2];split at h;rename_i c3;rw[if_pos c3];split at h;rename_i c4;rw[if_pos c4];simp only;rw[ji oM];exact(hk _ (ah _)).symm;cases h;rename_i c3;rw[if_neg c3];split at h;rename_i c4;rw[if_pos c4];split at h;rename_i c5;rw[if_pos c5];simp only;obtain⟨c6,c7⟩:=c5;have e0:=hk _ (ah (show 0<ar.length by omega));have e1:=hk _ (ah (show 1<ar.length by omega));rw[ji (show 0<ar.length by omega),ji (show 1<ar.length by omega)] at c7⊢;rw[e0,c7,e1];cases h;rename_i c4;rw[if_neg c4];split at h;rename_i c5;rw[if_pos c5];split at h;cases h;rename_i c6;rw[if_neg c6];simp only;rw[value,value,oU,oU,List.map_map,List.map_map];congr 1;exact List.map_congr_left fun e he=>hk e he;cases h
end
mutual
theorem Fs{m:dZ}{dx:List lH}(hE:∀e∈dx,value m e.A=value m e.B):∀(w:o8)(d:Nat),(lQ (qM dx) w d).2=true→value m (lQ (qM dx) w d).1.A=value m (lQ (qM dx) w d).1.B
 | .mk r n t ks,0,h=>by rw[lQ] at h;cases h
 | .mk r n t ks,d+1,h=>by
  rw[lQ] at h⊢;cases hk:jF (qM dx) ks d with
  | none=>rw[hk] at h;cases h
  | some ar=>rw[hk] at h;exact Tw hE (CR hE ks d ar hk) h
theorem CR{m:dZ}{dx:List lH}(hE:∀e∈dx,value m e.A=value m e.B):∀(ws:List o8)(d:Nat)(es:List lH),jF (qM dx) ws d=some es→∀e∈es,value m e.A=value m e.B
 | [],d,es,h,e,he=>by rw[jF] at h;cases h;cases he
 | w::ws,d,es,h,e,he=>by
  rw[jF] at h;split at h
  ·rename_i h1;cases hr:jF (qM dx) ws d with
   | none=>rw[hr] at h;cases h
   | some r=>rw[hr] at h;simp only[dV,Option.some.injEq] at h;rw[←h] at he;rcases ax.1 he with rfl|he;exact Fs hE w d h1;exact CR hE ws d r hr e he
  cases h
end
theorem Am{m:dZ}{dx:List lH}(hE:∀e∈dx,value m e.A=value m e.B){s:eV}{w:o8}{e:lH}(h:vQ s dx w=some e):value m e.A=value m e.B∧BS s [e]=true:=by unfold vQ at h;split at h;rename_i hc;simp only[ab] at hc;cases h;exact⟨Fs hE w 400 hc.2.1,hc.2.2⟩;cases h
theorem Ue{m n:Int}:∀{as bs:List Int}{aV:List Rat},as.length=bs.length→dot (jW m n as bs) aV=m*dot as aV+n*dot bs aV
 | [],[],aV,_=>by have e:dot [] aV=0:=(by unfold dot;rfl);rw[jW,e];grind;intros;contradiction
 | [],_::_,_,h=>by simp at h
 | _::_,[],_,h=>by simp at h
 | a::as,b::bs,[],_=>by have e1:dot (jW m n (a::as) (b::bs)) []=0:=(by rw[jW];unfold dot;rfl);have e2:dot (a::as) []=0:=(by unfold dot;rfl);have e3:dot (b::bs) []=0:=(by unfold dot;rfl);rw[e1,e2,e3];grind
 | a::as,b::bs,x::xs,h=>by rw[jW,dot,dot,dot,Ue (by simpa using h),Rat.intCast_add,Rat.intCast_mul,Rat.intCast_mul];grind
theorem OQ{l:mM}(h:jz l=true):l.bw.length=4:=by simp only[jz,ab,decide_eq_true_eq] at h;exact h.2.1
theorem VN{a b:mM}{m n:Int}(h:(jP a m b n).2=true):jz a=true∧jz b=true∧0≤n∧(jP a m b n).1=rA a m b n:=by unfold jP at h⊢;split at h;rename_i hc;simp only[ab,c8,decide_eq_true_eq] at hc;rw[if_pos (by simp only[ab,c8,decide_eq_true_eq];exact hc)];unfold va at h⊢;split at h;rename_i h2;rw[if_pos h2];exact⟨hc.1.1.1,hc.1.1.2,hc.2.1,rfl⟩;cases h;cases h
theorem P4{a b:mM}{n:Int}{aV:List Rat}(h:(jP a 1 b n).2=true)(ha:gZ a aV)(hb:gZ b aV):gZ (jP a 1 b n).1 aV:=by
 obtain⟨h1,h2,h3,h4⟩:=VN h;rw[h4];have hd:=Ue (m:=1) (n:=n) (aV:=aV) ((OQ h1).trans (OQ h2).symm);unfold gZ rA at *;simp only;rw[hd,Rat.intCast_add,Rat.intCast_mul,Rat.intCast_mul];have hn:(0:QQ)≤(n:QQ):=by have:=Rat.intCast_le_intCast (a:=0) (b:=n);rw[Rat.intCast_zero] at this;exact this.2 h3
 generalize hx:dot a.bw aV=x at *;generalize hy:dot b.bw aV=y at *;have hle:(n:QQ)*y≤n*b.bJ:=by
  refine Rat.mul_le_mul_of_nonneg_left ?_ hn;cases hs:b.cz with
  | true=>rw[hs] at hb;simp only[if_true] at hb;grind
  | false=>rw[hs] at hb;simpa using hb
 have h1':((1:Int):QQ)=1:=Rat.intCast_one;rw[h1'];rcases aa (a.cz=true) with hsa|hsa;rw[hsa] at ha⊢;simp only[if_true] at ha;rw[if_pos (by simp)];grind;have hsa':a.cz=false:=by simpa using hsa
 rw[hsa'] at ha⊢;simp only[aw,if_false,Bool.and_false,Bool.false_or] at ha⊢;rcases aa ((decide (0<n)&&b.cz)=true) with hc|hc;rw[if_pos hc];simp only[ab,decide_eq_true_eq] at hc;rw[hc.2] at hb;simp only[if_true] at hb;have hp:(0:QQ)<(n:QQ):=Rat.intCast_pos.2 hc.1;have:=Rat.mul_lt_mul_of_pos_left hb hp;grind;rw[if_neg hc];grind
theorem IE{aV:List Rat}:∀{ls:List mM}{ts:List Int}{out:mM},(∀l∈ls,gZ l aV)→gZ out aV→(wz ls ts out).2=true→gZ (wz ls ts out).1 aV
 | [],ts,out,_,ho,_=>by have e:wz [] ts out=(out,true):=(by unfold wz;rfl);rw[e];exact ho
 | l::ls,[],out,_,ho,_=>by have e:wz (l::ls) [] out=(out,true):=(by unfold wz;rfl);rw[e];exact ho
 | l::ls,t::ts,out,hl,ho,h=>by rw[wz] at h⊢;split at h;rename_i hs;rw[if_pos hs];exact IE (fun x hx=>hl x (by simp[hx])) (P4 hs ho (hl l (by simp))) h;cases h
theorem Tn:∀{cs:List Int}{aV:List Rat},(∀c∈cs,c=0)→dot cs aV=0
 | [],aV,_=>by unfold dot;rfl
 | c::cs,[],_=>by unfold dot;rfl
 | c::cs,x::xs,h=>by rw[dot,h c (by simp),Tn fun y hy=>h y (by simp[hy]),Rat.intCast_zero];grind
theorem WB{l:mM}{aV:List Rat}(h:tN l=true):¬gZ l aV:=by simp only[tN,flat,ab,Bool.or_eq_true,bh,decide_eq_true_eq] at h;obtain⟨_,h1,h2⟩:=h;unfold gZ;rw[Tn h1];have hc:=Rat.intCast_lt_intCast (a:=l.bJ) (b:=0);rw[Rat.intCast_zero] at hc;rcases h2 with h2|h2;have:=hc.2 h2;split;grind;grind;rw[h2.2,h2.1,Rat.intCast_zero];simp only[if_true];exact Rat.lt_irrefl
theorem Za{au:List mM}{bt:List Int}{aV:List Rat}(h:Dd au bt=true):¬ ∀l∈au,gZ l aV:=fun hl=>by simp only[Dd,ab] at h;obtain⟨h1,h2⟩:=h;unfold tX at h1 h2;split at h1;rename_i hc;rw[if_pos hc] at h2;refine WB h2 (IE hl ?_ h1);unfold gZ;simp only[aw,if_false,UM,Rat.intCast_zero];exact Rat.le_refl;cases h1
section
variable{m:dZ}{an:List az}(h4:an.length≤4)
def A6(m:dZ)(an:List az):List Rat:=(cK 4).map fun i=>if i<an.length then value m (an.getD i aX) else whole 0
theorem Xx(m:dZ)(an:List az):(A6 m an).length=4:=by simp[A6]
include h4
theorem aao{t:az}(ht:t∈an):(A6 m an).getD (a8 an t) (whole 0)=value m t:=by have hp:=df ht;rw[A6,aE,List.getElem?_map,List.getElem?_range oM];simp only[dV,Option.getD_some,if_pos hp];rw[ji hp];exact congrArg (value m) (bP.1 (lB ht)).2
theorem PM:∀{ts:List az}{ns:List Int},(∀t∈ts,t∈an)→yh an (A6 m an) ts ns=uw m ts ns
 | [],ns,_=>by unfold yh uw;rfl
 | t::ts,[],_=>by unfold yh uw;rfl
 | t::ts,n::ns,ht=>by rw[yh,uw,aao h4 (ht t (by simp)),PM fun x hx=>ht x (by simp[hx])]
theorem G9{ts:List az}{ns:List Int}{b:Int}{st:Bool}(ht:∀t∈ts,t∈an):gZ (vI an ts ns b st) (A6 m an)↔(if st then uw m ts ns<b else uw m ts ns≤b):=by rw[tl h4 (Xx m an) ht,PM h4 ht]
omit h4 in
theorem YJ:∀{cs:List Int}{aV:List Rat},dot (cs.map fun c=>-c) aV = - dot cs aV
 | [],aV=>by have e:dot [] aV=0:=(by unfold dot;rfl);rw[cL,e];grind
 | c::cs,[]=>by have e1:dot (c::cs) []=0:=(by unfold dot;rfl);have e2:dot ((c::cs).map fun c=>-c) []=0:=(by rw[aJ];unfold dot;rfl);rw[e1,e2];grind
 | c::cs,x::xs=>by rw[aJ,dot,dot,YJ,Rat.intCast_neg];grind
omit h4 in
theorem Rv{l:mM}{aV:List Rat}(h:¬gZ l aV):gZ (Ee l) aV:=by
 unfold Ee;split
 ·unfold gZ at h⊢;simp only;rw[YJ,Rat.intCast_neg];generalize dot l.bw aV=x at *;cases hs:l.cz with
  | true=>rw[hs] at h;simp only[if_true,Bool.not_true,aw,if_false] at h⊢;grind
  | false=>rw[hs] at h;simp only[aw,if_false,Bool.not_false,if_true] at h⊢;grind
 unfold gZ uZ;have e:dot [] aV=0:=by unfold dot;rfl
 simp only[aw,if_false,e,Rat.intCast_zero];exact Rat.le_refl
theorem Up{l:cC}(hf:Fit an l)(hs:nW m l):∀x∈nd an l,gZ x (A6 m an):=by
 intro x hx;unfold nd at hx;rcases aa (l.aY.kind=2) with k2|k2
 ·rw[if_pos k2,bx] at hx;have k1:¬l.aY.kind=1:=oM;unfold nW at hs;rw[if_neg k1] at hs;have e:=G9 (m:=m) (ns:=l.aY.bt) (b:=l.aY.bJ) (st:=l.aY.cz) h4 (hf.sum k2);rw[hx];cases hn:l.no with
  | true=>rw[hn] at hs;simp only[if_true] at hs⊢;exact Rv fun hh=>hs (e.1 hh)
  | false=>rw[hn] at hs;simp only[aw,if_false] at hs⊢;exact e.2 hs
 rw[if_neg k2] at hx;split at hx;rename_i hc;have hA:l.aY.A∈an:=gm.1 hc.2;have k1:=(nM hf.wf).resolve_right k2;have hB:=(hf.eq k1).1 hA;unfold nW at hs;rw[if_pos k1,hc.1] at hs;simp only[aw,if_false] at hs;have e1:=G9 (m:=m) (ts:=[l.aY.A,l.aY.B]) (ns:=[1,-1]) (b:=0) (st:=false) h4 (by simp[hA,hB]);have e2:=G9 (m:=m) (ts:=[l.aY.A,l.aY.B]) (ns:=[-1,1]) (b:=0) (st:=false) h4 (by simp[hA,hB]);have e0:uw m [] []=0:=by unfold uw;rfl
 simp only[aw,if_false,uw,e0,hs] at e1 e2;rcases ax.1 hx with hx|hx;rw[hx];exact e1.2 (by grind);rw[bx] at hx;rw[hx];exact e2.2 (by grind);cases hx
end
end Go.Mod
namespace Go.Mod
open Go.Eng
set_option maxRecDepth 100000
theorem Ja{m:dZ}{a b:az}(h:qv (value m a)<qv (value m b)):nW m (gC a b):=by
 have e0:uw m [] []=0:=by unfold uw;rfl
 unfold nW gC;split;simp only[L4,uw,e0,if_true,aw,if_false];rw[if_neg (by decide)];grind;simp only[L4,uw,e0,if_true,aw,if_false];rw[if_neg (by decide)];grind
theorem Pc{m:dZ}{a b:az}(h:value m a=value m b):nW m (kQ a b):=by unfold nW kQ HG;simp only[if_true,aw,if_false];exact h
theorem YM{m:dZ}{af:List cC}(h:∀l∈af,nW m l):∀e∈cG af,value m e.A=value m e.B:=fun e he=>by obtain⟨l,hl,h1,h2,rfl⟩:=HT.1 he;have:=h l hl;unfold nW at this;rw[if_pos h1,h2] at this;exact this
section
variable{s:eV}{m:dZ}{an:List az}(hm:jk m=true)(h4:an.length≤4)(hn:∀t∈an,bR t=true)
include hm h4 hn
theorem Tl{af:List cC}{l:cC}(hf:∀x∈af,Fit an x)(hs:∀x∈af,nW m x)(h1:Fit an l)(h2:nW m l):(∀x∈af++[l],Fit an x)∧(∀x∈af++[l],nW m x):=by have _:=hm;have _:=h4;have _:=hn;constructor;intro x hx;rcases aM.1 hx with hx|hx;exact hf x hx;rw[bx.1 hx];exact h1;intro x hx;rcases aM.1 hx with hx|hx;exact hs x hx;rw[bx.1 hx];exact h2
end
mutual
theorem E6{s:eV}{m:dZ}{an:List az}(hm:jk m=true)(h4:an.length≤4)(hn:∀t∈an,bR t=true):∀(c:fL)(af:List cC)(cE:Nat),xD s an c af cE=true→(∀l∈af,Fit an l)→(∀l∈af,nW m l)→False
 | .mk k n w ts a b ks,af,cE,h,hf,hs=>by
  rw[xD] at h;split at h;cases h;split at h;simp only[ab] at h;obtain⟨_,_,h⟩:=h;split at h;rename_i e l he hl;simp only[ab,decide_eq_true_eq] at h;obtain⟨h1,h2,h3,h5⟩:=h;have hv:=(Am (YM hs) he).1;have hx:=hs l (du hl);unfold nW at hx;rw[if_pos h2,h1] at hx;simp only[if_true] at hx;exact hx (by rw[←h3,←h5,hv]);cases h;split at h;simp only[ab] at h;refine Za (aV:=A6 m an) h.2 fun x hx=>?_;obtain⟨l,hl,hx⟩:=List.mem_flatMap.1 hx;exact Up h4 (hf l hl) (hs l hl) x hx;split at h;simp only[ab] at h;obtain⟨hb,h⟩:=h;split at h;rename_i e he;simp only[ab] at h;obtain⟨hA,hB,_⟩:=y6.1 h.1;have hv:=(Am (YM hs) he).1;have hk:ks.length=1:=(by simp only[bare,ab,decide_eq_true_eq] at hb;exact hb.2.2.2.2);obtain⟨g1,g2⟩:=Tl hm h4 hn hf hs (Xa hA hB (hn _ hA) (hn _ hB)) (Pc hv);exact xv hm h4 hn ks [af++[kQ e.A e.B]] (cE+1) h.2 (by rw[hk];rfl) _ (by simp) g1 g2;cases h;split at h;simp only[ab] at h;obtain⟨hb,hd,h⟩:=h;obtain⟨hA,hB,nI⟩:=y6.1 hd;have hk:ks.length=3:=(by simp only[bare,ab,decide_eq_true_eq] at hb;exact hb.2.2.2.2);have key:∀l∈lr a b,Fit an l→nW m l→False:=fun l hl f1 f2=>by obtain⟨g1,g2⟩:=Tl hm h4 hn hf hs f1 f2;exact xv hm h4 hn ks ((lr a b).map fun l=>af++[l]) (cE+1) h (by rw[hk];rfl) _ (bq.2 ⟨l,hl,rfl⟩) g1 g2
  rcases aa (qv (value m a)<qv (value m b)) with h1|h1;exact key (gC a b) (by simp[lr]) (Nl hA hB (hn _ hA) (hn _ hB) nI) (Ja h1);rcases aa (qv (value m b)<qv (value m a)) with h2|h2;exact key (gC b a) (by simp[lr]) (Nl hB hA (hn _ hB) (hn _ hA) (Ne.symm nI)) (Ja h2);refine key (kQ a b) (by simp[lr]) (Xa hA hB (hn _ hA) (hn _ hB)) (Pc ?_);exact aez (L1 hm a) (L1 hm b) (by rw[Rat.not_lt] at h1 h2;exact Rat.le_antisymm h2 h1);cases h
theorem xv{s:eV}{m:dZ}{an:List az}(hm:jk m=true)(h4:an.length≤4)(hn:∀t∈an,bR t=true):∀(cs:List fL)(ls:List (List cC))(cE:Nat),qh s an cs ls cE=true→cs.length=ls.length→∀af∈ls,(∀l∈af,Fit an l)→(∀l∈af,nW m l)→False
 | [],ls,cE,_,hl,af,hm',_,_=>by rw[List.eq_nil_of_length_eq_zero hl.symm] at hm';cases hm'
 | c::cs,[],cE,_,hl,_,_,_,_=>by simp at hl
 | c::cs,l::ls,cE,h,hl,af,hx,hf,hs=>by rw[qh,ab] at h;rcases ax.1 hx with rfl|hx;exact E6 hm h4 hn c af cE h.1 hf hs;exact xv hm h4 hn cs ls cE h.2 (by simpa using hl) af hx hf hs
end
theorem WJ{s:eV}{af:List cC}{c:fL}{m:dZ}(h:LV s af c=true):gK s m af=false:=by
 cases hm:gK s m af with
 | false=>rfl
 | true=>simp only[LV,ab] at h;have hf:=KZ h.1;obtain⟨h1,h2⟩:=QT hm;exact(E6 h1 hf.2.2.1 hf.2.1 c af 1 h.2 hf.1 h2).elim
mutual
theorem OB{f:Int→Int→az→List lH→lH×Bool}:∀(w:o8)(d:Nat),(lQ f w d).2=true→lQ f w (d+1)=lQ f w d
 | .mk r n t ks,0,h=>by rw[lQ] at h;cases h
 | .mk r n t ks,d+1,h=>by
  rw[lQ] at h;rw[lQ,lQ];cases hk:jF f ks d with
  | none=>rw[hk] at h;cases h
  | some es=>rw[M5 ks d es hk]
theorem M5{f:Int→Int→az→List lH→lH×Bool}:∀(ws:List o8)(d:Nat)(es:List lH),jF f ws d=some es→jF f ws (d+1)=some es
 | [],d,es,h=>by rw[jF] at h⊢;exact h
 | w::ws,d,es,h=>by
  rw[jF] at h⊢;split at h
  ·rename_i h1;rw[OB w d h1,if_pos h1];cases hr:jF f ws d with
   | none=>rw[hr] at h;cases h
   | some r=>rw[hr] at h;rw[M5 ws d r hr];exact h
  cases h
end
def lE(dx:List lH)(w:o8)(d:Nat)(a b:az):Prop:=lQ (qM dx) w d=(⟨a,b⟩,true)
theorem lE.up{dx:List lH}{w:o8}{a b:az}:∀{d d':Nat},d≤d'→lE dx w d a b→lE dx w d' a b
 | d,0,h,hw=>by obtain rfl:d=0:=oM;exact hw
 | d,d'+1,h,hw=>by rcases b7 d (d'+1) with h1|h1;have:=lE.up (d':=d') oM hw;unfold lE at this⊢;rw[OB w d' (by rw[this]),this];obtain rfl:d=d'+1:=oM;exact hw
section
variable{dx:List lH}
theorem Vq{t:az}(h:bR t=true):lE dx (.mk 1 0 t []) 1 t t:=by unfold lE;rw[lQ,jF];simp[qM,h]
theorem T7{n:Nat}{e:lH}(h:dx[n]?=some e):lE dx (.mk 2 n aX []) 1 e.A e.B:=by
 obtain⟨hn,rfl⟩:=bP.1 h;unfold lE;rw[lQ,jF];have hw:c8 (n:Int) 0 ((dx.length:Int)-1)=true:=by simp[c8];omega
 have h0:isNone aX=true:=rfl;simp[qM,hw,h0,List.getD,hn]
theorem ZM{w:o8}{d:Nat}{a b:az}(h:lE dx w d a b):lE dx (.mk 3 0 aX [w]) (d+1) b a:=by unfold lE at h⊢;rw[lQ,jF,h,jF];have h0:isNone aX=true:=rfl;simp[qM,h0]
theorem UE{v w:o8}{d:Nat}{a b c:az}(h1:lE dx v d a b)(h2:lE dx w d b c):lE dx (.mk 4 0 aX [v,w]) (d+1) a c:=by unfold lE at h1 h2⊢;rw[lQ,jF,h1,jF,h2,jF];have h0:isNone aX=true:=rfl;simp[qM,h0]
theorem KK{d:Nat}:∀{ws:List o8}{xs ys:List az},ws.length=xs.length→xs.length=ys.length→(∀(j:Nat)(h1:j<ws.length)(h2:j<xs.length)(h3:j<ys.length),lE dx ws[j] d xs[j] ys[j])→∃es,jF (qM dx) ws d=some es∧es.length=ws.length∧es.map (·.A)=xs∧es.map (·.B)=ys
 | [],[],[],_,_,_=>⟨[],by rw[jF],rfl,rfl,rfl⟩
 | [],_::_,_,h,_,_=>by simp at h
 | [],[],_::_,_,h,_=>by simp at h
 | _::_,[],_,h,_,_=>by simp at h
 | _::_,_::_,[],_,h,_=>by simp at h
 | w::ws,x::xs,y::ys,h1,h2,hw=>by
  obtain⟨es,e1,e2,e3,e4⟩:=KK (ws:=ws) (xs:=xs) (ys:=ys) (by simpa using h1) (by simpa using h2) (fun j a b c=>by
   have:=hw (j+1) (by simpa using a) (by simpa using b) (by simpa using c)
   simp only[List.getElem_cons_succ] at this
   exact this)
  have h0:=hw 0 (by simp) (by simp) (by simp);unfold lE at h0;simp only[List.getElem_cons_zero] at h0;refine⟨⟨x,y⟩::es,?_,by simp[e2],by simp[e3],by simp[e4]⟩;rw[jF,h0,e1];rfl
theorem Xq{name:p8}{ws:List o8}{xs ys:List az}{d:Nat}(hn:ig name=true)(h0:0<ws.length)(h1:ws.length=xs.length)(h2:xs.length=ys.length)(hx:bR (.mk name xs)=true)(hy:bR (.mk name ys)=true)
 (hw:∀(j:Nat)(h1:j<ws.length)(h2:j<xs.length)(h3:j<ys.length),lE dx ws[j] d xs[j] ys[j]):lE dx (.mk 5 0 (.mk name []) ws) (d+1) (.mk name xs) (.mk name ys):=by
 obtain⟨es,e1,e2,e3,e4⟩:=KK h1 h2 hw
 unfold lE
 rw[lQ,e1]
 have hl:¬es.length=0:=oM
 have hl':es≠[]:=fun e=>hl (by rw[e];rfl)
 simp[qM,az.name,az.ar,hn,hl',e3,e4,hx,hy]
theorem Gd{one:Edge→o8}{ao:List Step}{P:Nat→az}{d:Nat}{x:az}:∀(es:List Edge)(w:o8)(d':Nat)(v b:Nat),d≤d'→lE dx w d' x (P v)→ve ao v es b→(∀e∈es,lE dx (one e) d (P (j9 ao e)) (P (nH ao e)))→lE dx (xw one w es) (d'+es.length) x (P b)
 | [],w,d',v,b,_,hw,hp,_=>by rw[ve] at hp;rw[xw,←hp];exact hw
 | e::es,w,d',v,b,hd,hw,hp,ho=>by rw[ve] at hp;rw[xw];have h1:=UE hw ((hp.1▸ho e (by simp)).up hd);have:=Gd es _ (d'+1) (nH ao e) b oM h1 hp.2 fun y hy=>ho y (by simp[hy]);rw[aG,show d'+(es.length+1)=d'+1+es.length by omega];exact this
end
section
variable{aj:List az}{dx:List lH}{ao:List Step}(dL:qu aj dx ao)
include dL
theorem L5{k:Nat}(hk:k≤ao.length){a b:Nat}(ha:a<aj.length)(hb:b<aj.length)(h:cl (bl aj.length ao k) a=cl (bl aj.length ao k) b) :
 ∀e∈oK aj.length ao k a b,e.step<k∧cl (bl aj.length ao k) (j9 ao e)=cl (bl aj.length ao k) a∧cl (bl aj.length ao k) (nH ao e)=cl (bl aj.length ao k) a:=by
 obtain⟨h1,h2,h3⟩:=za dL hk ha hb h
 intro e he
 have hv:=sq dL hk h1 h2 (nH ao e) (by unfold lh;exact List.mem_cons_of_mem _ (bq.2 ⟨e,he,rfl⟩))
 have hs:=Ht dL hk (h1 e he)
 exact⟨h1 e he,by rw[hs,hv],hv⟩
theorem B3:∀{k:Nat},k≤ao.length→∀{a b:Nat},a<aj.length→b<aj.length→cl (bl aj.length ao k) a=cl (bl aj.length ao k) b→((oK aj.length ao k a b).map Edge.step).Nodup
 | 0,_,a,b,_,_,_=>by simp[oK]
 | k+1,hk,a,b,ha,hb,h=>by have hk':k≤ao.length:=oM;rw[Wo oM ha hb] at h;have hA:=O8 dL (k:=k) oM;have hB:=O5 dL (k:=k) oM;have nI:=(uQ dL (k:=k) oM).ne;have disj:∀{x y u v:Nat},x<aj.length→y<aj.length→u<aj.length→v<aj.length→cl (bl aj.length ao k) x=cl (bl aj.length ao k) y→cl (bl aj.length ao k) u=cl (bl aj.length ao k) v→cl (bl aj.length ao k) x≠cl (bl aj.length ao k) u→∀bk,((oK aj.length ao k x y++⟨k,bk⟩::oK aj.length ao k u v).map Edge.step).Nodup:=(by intro x y u v hx hy hu hv h1 h2 h3 bk;have p1:=L5 dL hk' hx hy h1;have p2:=L5 dL hk' hu hv h2;rw[List.map_append,aJ,List.nodup_append];refine⟨B3 hk' hx hy h1,gz.2 ⟨fun hm=>?_,B3 hk' hu hv h2⟩,fun s hs t ht e=>?_⟩;obtain⟨e,he,e1⟩:=bq.1 hm;have e1':e.step=k:=e1;have:=(p2 e he).1;omega;subst e;obtain⟨e1,he1,q1⟩:=bq.1 hs;rcases ax.1 ht with ht|ht;have ht':s=k:=ht;have:=(p1 e1 he1).1;omega;obtain⟨e2,he2,q2⟩:=bq.1 ht;obtain⟨_,a1,a2⟩:=p1 e1 he1;obtain⟨_,b1,b2⟩:=p2 e2 he2;have gY:e1.step=e2.step:=(by rw[q1,q2]);refine h3 ?_;rw[←a1,←b1];have es:j9 ao e1=j9 ao e2∨j9 ao e1=nH ao e2:=(by unfold j9 nH;rw[gY];cases e1.back<;>cases e2.back<;>simp);rcases es with es|es;rw[es];rw[es,b2,b1]);rw[oK];rcases aa (cl (bl aj.length ao k) a=cl (bl aj.length ao k) b) with h1|h1;rw[if_pos h1];exact B3 hk' ha hb h1;rw[if_neg h1];rcases h with h|⟨h,h'⟩|⟨h,h'⟩;exact(h1 h).elim;rw[if_pos (show _=cl _ (jQ ao k).A.toNat from h)];exact disj ha hA hB hb h h'.symm (by rw[h];exact nI) false;rw[if_neg (show ¬_=cl _ (jQ ao k).A.toNat from fun x=>nI (by rw[←x];exact h))];exact disj ha hB hA hb h h'.symm (by rw[h];exact nI.symm) true
theorem agE{k:Nat}(hk:k≤ao.length){a b:Nat}(ha:a<aj.length)(hb:b<aj.length)(h:cl (bl aj.length ao k) a=cl (bl aj.length ao k) b):(oK aj.length ao k a b).length≤k:=by
 have h1:=B3 dL hk ha hb h;have h2:=tu (N:=k) h1 fun v hv=>by obtain⟨e,he,rfl⟩:=bq.1 hv;exact(L5 dL hk ha hb h e he).1
 simpa using h2
end
def rK:Nat→Nat
 | 0=>1
 | k+1=>rK k+2+k
theorem Aw:∀{j k:Nat},j≤k→rK j≤rK k
 | j,0,h=>by obtain rfl:j=0:=oM;exact aH _
 | j,k+1,h=>by rcases b7 j (k+1) with h1|h1;have:=Aw (j:=j) (k:=k) oM;rw[rK];omega;obtain rfl:j=k+1:=oM;exact aH _
theorem ZH:rK 24≤400:=by decide
theorem Ld:∀k,1≤rK k
 | 0=>aH _
 | k+1=>by have:=Ld k;rw[rK];omega
theorem aaw{aj:List az}{c:List Nat}{a b:Nat}(h:alike aj c a b=true):0<(aj.getD a aX).ar.length∧(aj.getD a aX).name=(aj.getD b aX).name∧oV aj c (aj.getD a aX).ar (aj.getD b aX).ar=true:=by simp only[alike,ab,decide_eq_true_eq] at h;exact h
theorem BZ{aj:List az}{t:az}(h:t∈aj):aj.getD (a8 aj t) aX=t:=by rw[ji (df h)];exact(bP.1 (lB h)).2
section
variable{aj:List az}{dx:List lH}{ao:List Step}(dL:qu aj dx ao)(hki:mo aj)(htm:∀t∈aj,bR t=true)(jY:∀e∈dx,e.A∈aj∧e.B∈aj)
include dL hki htm jY
theorem LD:∀(f n a b:Nat),n<f→n≤ao.length→a<aj.length→b<aj.length→cl (bl aj.length ao n) a=cl (bl aj.length ao n) b→lE dx (uc aj ao f n a b) (rK n) (aj.getD a aX) (aj.getD b aX)
 | 0,n,_,_,h,_,_,_,_=>by omega
 | f+1,n,a,b,hf,hn,ha,hb,hc=>by
  have hPt:∀i,i<aj.length→bR (aj.getD i aX)=true:=fun i hi=>by rw[ji hi];exact htm _ (ah hi)
  have hPm:∀i,i<aj.length→aj.getD i aX∈aj:=fun i hi=>by rw[ji hi];exact ah hi
  obtain⟨w1,w2,w3⟩:=za dL hn ha hb hc;have fj:=agE dL hn ha hb hc;have hedge:∀e,e.step<n→∃n',n=n'+1∧lE dx (ri aj ao (uc aj ao f) e) (rK n'+2) (aj.getD (j9 ao e) aX) (aj.getD (nH ao e) aX):=fun e he=>by
   obtain⟨n',rfl⟩:∃n',n=n'+1:=⟨n-1,oM⟩;refine⟨n',rfl,?_⟩;have hs:=uQ dL (k:=e.step) oM;have base:lE dx (if(jQ ao e.step).given<0 then .mk 5 0 (.mk (aj.getD (jQ ao e.step).A.toNat aX).name []) (((aj.getD (jQ ao e.step).A.toNat aX).ar.zip (aj.getD (jQ ao e.step).B.toNat aX).ar).map fun p=>uc aj ao f e.step (a8 aj p.1) (a8 aj p.2)) else .mk 2 (jQ ao e.step).given aX []) (rK n'+1) (aj.getD (jQ ao e.step).A.toNat aX) (aj.getD (jQ ao e.step).B.toNat aX):=by rcases hs.how with⟨h1,h2⟩|⟨m,h1,q,h2,h3,h4⟩;rw[if_pos oM];obtain⟨k0,k1,k2⟩:=aaw h2;obtain⟨k3,k4⟩:=GH k2;have tA:=hPt _ hs.a1;have tB:=hPt _ hs.b1;have mA:=hki _ (hPm _ hs.a1);have mB:=hki _ (hPm _ hs.b1);generalize aj.getD (jQ ao e.step).A.toNat aX=tA0 at *;generalize aj.getD (jQ ao e.step).B.toNat aX=tB0 at *;obtain⟨nA,kA⟩:=tA0;obtain⟨nB,kB⟩:=tB0;have k1:nA=nB:=k1;subst k1;have k0:0<kA.length:=k0;have k3:kA.length=kB.length:=k3;have mA:∀k∈kA,k∈aj:=mA;have mB:∀k∈kB,k∈aj:=mB;show lE dx (.mk 5 0 (.mk nA []) ((kA.zip kB).map fun p=>uc aj ao f e.step (a8 aj p.1) (a8 aj p.2))) (rK n'+1) (.mk nA kA) (.mk nA kB);refine Xq (S1 tA) (by simp;omega) (by simp;omega) k3 tA tB fun j j1 j2 j3=>?_;simp only[List.getElem_map,List.getElem_zip];have xA:=mA _ (ah j2);have xB:=mB _ (ah j3);have:=LD f e.step (a8 aj kA[j]) (a8 aj kB[j]) oM oM (df xA) (df xB) (k4 j j2 j3);rw[BZ xA,BZ xB] at this;exact this.up (Aw oM);rw[if_neg oM,h1,h3,h4];simp only[Int.toNat_natCast];have hq:=jY q (du h2);rw[BZ hq.1,BZ hq.2];exact(T7 h2).up oM
   unfold ri j9 nH vA vB;simp only;cases e.back with
   | true=>exact ZM base
   | false=>exact base.up oM
  rw[uc];cases hw:oK aj.length ao n a b with
  | nil=>rw[hw,ve] at w2;rw[←w2];exact(Vq (hPt a ha)).up (Ld n)
  | cons e es=>
   rw[hw] at w1 w2 fj;rw[ve] at w2;obtain⟨n',hn',h1⟩:=hedge e (w1 e (by simp));subst hn';rw[w2.1] at h1;have l6:∀x∈es,lE dx (ri aj ao (uc aj ao f) x) (rK n'+2) (aj.getD (j9 ao x) aX) (aj.getD (nH ao x) aX):=fun x hx=>by obtain⟨n2,e2,h2⟩:=hedge x (w1 x (by simp[hx]));obtain rfl:n2=n':=oM;exact h2
   have:=Gd (P:=fun i=>aj.getD i aX) es _ (rK n'+2) (nH ao e) b (aH _) h1 w2.2 l6;simp only[aG] at fj;refine this.up ?_;rw[rK];omega
end
end Go.Mod
namespace Go.Mod
open Go.Eng
set_option maxRecDepth 100000
def Xk(n:Nat)(c:List Nat):Prop:=c.length=n∧∀i,i<n→cl c i<n∧cl c (cl c i)=cl c i
def LU(c:List Nat):List Nat:=(cK c.length).filter fun i=>decide (cl c i=i)
theorem A5{c:List Nat}{i:Nat}:i∈LU c↔i<c.length∧cl c i=i:=by simp[LU]
theorem Nc(c:List Nat):(LU c).Nodup:=List.nodup_range.filter _
theorem Ur{n:Nat}{c:List Nat}{a b:Nat}(h:Xk n c)(ha:a<n)(hb:b<n)(nI:cl c a≠cl c b):Xk n (km c a b)∧(LU (km c a b)).length+1≤(LU c).length:=by
 obtain⟨hl,hr⟩:=h;have hA:=hr a ha;have hB:=hr b hb;obtain⟨mx,hmx⟩:∃mx,max (cl c a) (cl c b)=mx:=⟨_,rfl⟩;obtain⟨mn,hmn⟩:∃mn,min (cl c a) (cl c b)=mn:=⟨_,rfl⟩;have hmxn:mx<n∧cl c mx=mx∧mn<n∧cl c mn=mn∧mn≠mx:=by rcases b7 (cl c a) (cl c b) with h1|h1;have e1:mx=cl c b:=oM;have e2:mn=cl c a:=oM;rw[e1,e2];exact⟨hB.1,hB.2,hA.1,hA.2,nI⟩;have e1:mx=cl c a:=oM;have e2:mn=cl c b:=oM;rw[e1,e2];exact⟨hA.1,hA.2,hB.1,hB.2,fun e=>nI e.symm⟩
 obtain⟨x1,x2,x3,x4,x5⟩:=hmxn;have hj:∀i,i<n→cl (km c a b) i=if cl c i=mx then mn else cl c i:=fun i hi=>by rw[Bd oM,hmx,hmn]
 refine⟨⟨by rw[j8,hl],fun i hi=>?_⟩,?_⟩;rw[hj i hi];obtain⟨r1,r2⟩:=hr i hi;split;exact⟨x3,by rw[hj mn x3,x4,if_neg x5]⟩;rename_i h1;exact⟨r1,by rw[hj _ r1,r2,if_neg h1]⟩;have hs:∀i∈mx::LU (km c a b),i∈LU c:=by intro i hi;rcases ax.1 hi with rfl|hi;exact A5.2 ⟨oM,x2⟩;obtain⟨h1,h2⟩:=A5.1 hi;rw[j8] at h1;rw[hj i oM] at h2;split at h2;rename_i h3;rw[←h2,x4] at h3;exact absurd h3 x5;exact A5.2 ⟨h1,h2⟩
 have hn:(mx::LU (km c a b)).Nodup:=by refine gz.2 ⟨fun hm=>?_,Nc _⟩;have:=(A5.1 hm).2;rw[hj mx x1,if_pos x2] at this;exact x5 this
 simpa using Bs hn hs
theorem Fo{aj:List az}{dx:List lH}{ao:List Step}(dL:qu aj dx ao):∀k,k≤ao.length→Xk aj.length (bl aj.length ao k)∧(LU (bl aj.length ao k)).length+k≤aj.length
 | 0,_=>by
  have e:∀i,i<aj.length→cl (bl aj.length ao 0) i=i:=fun i hi=>by rw[nN (by rw[kq];exact hi)];simp[bl]
  refine⟨⟨kq ..,fun i hi=>by rw[e i hi];exact⟨hi,e i hi⟩⟩,?_⟩;have:=tu (N:=aj.length) (Nc (bl aj.length ao 0)) fun v hv=>by
   have:=(A5.1 hv).1
   rwa [kq] at this
  omega
 | k+1,hk=>by
  obtain⟨h1,h2⟩:=Fo dL k oM;have hs:=uQ dL (k:=k) oM;rw[X3 oM];obtain⟨h3,h4⟩:=Ur h1 hs.a1 hs.b1 hs.ne;exact⟨h3,by
   have h4':(LU (km (bl aj.length ao k) (vA ao k) (vB ao k))).length+1≤(LU (bl aj.length ao k)).length:=h4
   omega⟩
theorem aeh{aj:List az}{dx:List lH}(jY:∀e∈dx,e.A∈aj∧e.B∈aj):(closed aj dx).2.length≤aj.length:=by have:=(Fo (qF jY).1 _ (aH _)).2;omega
theorem JQ{aj:List az}{dx:List lH}(hki:mo aj)(htm:∀t∈aj,bR t=true)(jY:∀e∈dx,e.A∈aj∧e.B∈aj)(h24:aj.length≤24){a b:az}(ha:a∈aj)(hb:b∈aj)(hc:lV aj (closed aj dx).1 a b=true) :
 lE dx (o9 aj (closed aj dx).2 a b) 400 a b:=by
 have hk:=qF jY
 have hs:=aeh jY
 have hc':=of_decide_eq_true hc
 rw[hk.2] at hc'
 have:=LD hk.1 hki htm jY ((closed aj dx).2.length+1) (closed aj dx).2.length (a8 aj a) (a8 aj b) oM (aH _) (df ha) (df hb) hc'
 rw[BZ ha,BZ hb] at this
 exact this.up (Nat.le_trans (Aw (show _≤24 by omega)) ZH)
theorem SX{s:eV}{dx:List lH}{w:o8}{a b:az}(h1:BS s dx=true)(h2:BS s [⟨a,b⟩]=true)(h:lE dx w 400 a b):vQ s dx w=some ⟨a,b⟩:=by unfold lE at h;unfold vQ;rw[h1,h];simp[h2]
structure Nu(s:eV)(af:List cC):Prop where
 Bw:kO s af
 one:∀l∈af,l.aY.kind=1→kG s ⟨l.aY.A,l.aY.B⟩=true
theorem Nu.dx{s:eV}{af:List cC}(h:Nu s af):∀e∈cG af,kG s e=true:=fun e he=>by obtain⟨l,hl,h1,_,rfl⟩:=HT.1 he;exact h.one l hl h1
theorem ae6{s:eV}{af:List cC}(h:gO s af=true):Nu s af:=⟨M3 h,fun l hl hk=>by have:=ID h l hl;simp only[hU,hk,if_true,ab] at this;exact this.2.2⟩
theorem Nu.BS{s:eV}{af:List cC}(h:Nu s af)(h12:(cG af).length≤12):BS s (cG af)=true:=by
 have hg:=h.Bw;have hi:∀t∈MI (cG af),t∈aQ af:=fun t ht=>by obtain⟨e,he,h1⟩:=PS.1 ht;obtain⟨h2,h3⟩:=hg.OM e he;rcases h1 with rfl|rfl;exact h2;exact h3
 have h1:=Uv (ts:=MI (cG af)) (fun t ht=>hg.term t (hi t ht)) hg.ar hi;simp only[Mod.BS,ab,decide_eq_true_eq,bh];exact⟨⟨⟨hg.sig,h12⟩,h.dx⟩,by have:=hg.n24;omega⟩
theorem Nu.aj4{s:eV}{af:List cC}(h:Nu s af){a b:az}(ha:a∈aQ af)(hb:b∈aQ af)(hs:kG s ⟨a,b⟩=true):Mod.BS s [⟨a,b⟩]=true:=by
 have hg:=h.Bw;have hi:∀t∈MI [(⟨a,b⟩:lH)],t∈aQ af:=fun t ht=>by obtain⟨e,he,h1⟩:=PS.1 ht;rw[bx] at he;subst he;rcases h1 with rfl|rfl;exact ha;exact hb
 have h1:=Uv (ts:=MI [(⟨a,b⟩:lH)]) (fun t ht=>hg.term t (hi t ht)) hg.ar hi;simp only[Mod.BS,ab,decide_eq_true_eq,bh];exact⟨⟨⟨hg.sig,by simp⟩,fun e he=>by rw[bx.1 he];exact hs⟩,by have:=hg.n24;omega⟩
theorem Tf{s:eV}{af:List cC}{t:az}(h:t∈aO s af):gJ s t=some 1:=of_decide_eq_true (cX.1 h).2
theorem BT{s:eV}{af:List cC}{a b:az}(ha:a∈aO s af)(hb:b∈aO s af):kG s ⟨a,b⟩=true:=by simp[kG,Tf ha,Tf hb]
theorem Nu.more{s:eV}{af:List cC}{l:cC}(h:Nu s af)(hn:Next s af l)(he:l.aY.kind=1→kG s ⟨l.aY.A,l.aY.B⟩=true):Nu s (af++[l]):=by refine⟨hn.1,fun x hx=>?_⟩;rcases aM.1 hx with hx|hx;exact h.one x hx;rw[bx.1 hx];exact he
theorem Fx(a b:az):(gC a b).aY.kind=2:=by unfold gC;split<;>rfl
theorem ahU{au:List mM}(h:(dX au).code=1):Dd au (dX au).bt=true:=by
 have hend:∀s0 s1 s2 s3 aK,(mO au s0 s1 s2 s3 aK).code=1→Dd au (mO au s0 s1 s2 s3 aK).bt=true:=fun s0 s1 s2 s3 aK h=>by unfold mO at h⊢;split at h;split at h;rename_i hf;rw[if_pos hf];exact hf;simp at h;split at h;simp at h;split at h<;>simp at h
 unfold dX at h⊢;split at h;rename_i hs;rw[if_pos hs];split at h;simp at h;split at h;simp at h;split at h;simp at h;split at h;simp at h;exact hend _ _ _ _ _ h;simp at h
theorem UF{run:List cC→HO}{a b:az}:∀{ls:List (List cC)}{out:List fL},(yi run a b ls out).code=1→(yi run a b ls out).case= .mk 4 0 E1 [] a b (out++ls.map fun l=>(run l).case)∧∀l∈ls,(run l).code=1
 | [],out,_=>⟨by rw[Cw];simp,by simp⟩
 | l::ls,out,h=>by rw[zb] at h⊢;rcases aa ((run l).code=1) with h1|h1;rw[if_pos h1] at h⊢;obtain⟨i1,i2⟩:=UF h;refine⟨by rw[i1];simp,fun x hx=>?_⟩;rcases ax.1 hx with rfl|hx;exact h1;exact i2 x hx;rw[if_neg h1] at h;exact absurd h h1
theorem H7{s:eV}{an:List az}{g:List cC→fL}{cE:Nat}:∀{ls:List (List cC)},(∀l∈ls,xD s an (g l) l cE=true)→qh s an (ls.map g) ls cE=true
 | [],_=>by rw[cL,qh];· intros;contradiction
 | l::ls,h=>by rw[aJ,qh,ab];exact⟨h l (by simp),H7 fun x hx=>h x (by simp[hx])⟩
theorem Li{s:eV}:∀(f:Nat)(af:List cC)(cE:Nat),Nu s af→cE+f≤14→(nO s (aQ af) (aO s af) f af).code=1→xD s (aO s af) (nO s (aQ af) (aO s af) f af).case af cE=true
 | 0,af,_,_,_,h=>by simp[nO,DM] at h
 | f+1,af,cE,hF,hd,h=>by
  have hg:=hF.Bw;have hdeep:¬14<cE:=oM;have n0:isNone aX=true:=rfl;rcases aa (12<(cG af).length) with h12|h12;rw[KE h12] at h;simp[DM] at h;have hE:=hF.BS oM;have hwhy:∀{a b:az},a∈aQ af→b∈aQ af→kG s ⟨a,b⟩=true→lV (aQ af) (closed (aQ af) (cG af)).1 a b=true→vQ s (cG af) (o9 (aQ af) (closed (aQ af) (cG af)).2 a b)=some ⟨a,b⟩:=fun ha hb hs hc=>
   SX hE (hF.aj4 ha hb hs) (JQ hg.ar hg.term hg.OM hg.n24 ha hb hc)
  cases hc:qj (qq (aQ af) (closed (aQ af) (cG af)).1) af with
  | some n=>rw[Hr h12 hc];obtain⟨hn,hp⟩:=Ri hc;have hgd:af.getD n Hc=af[n]:=ji hn;simp only[qq,ab,decide_eq_true_eq] at hp;obtain⟨p1,p2,p3⟩:=hp;have hm:=ah hn;obtain⟨hA,hB⟩:=hg.acG _ hm p2;have hw:=hwhy hA hB (hF.one _ hm p2) p3;rw[hgd,xD,if_neg hdeep,if_pos rfl,hw];have hw2:c8 (n:Int) 0 ((af.length:Int)-1)=true:=(by simp[c8];omega);simp[bare,fL.n,fL.xU,fL.ar,fL.A,fL.B,fL.bt,n0,hw2,hn,p1,p2]
  | none=>
  rcases aa ((dX (iL (aO s af) af)).code=1) with h1|h1;rw[Lf h12 hc h1,xD,if_neg hdeep];simp[bare,fL.n,fL.xU,fL.ar,fL.A,fL.B,n0,ahU h1];rcases aa ((dX (iL (aO s af) af)).code=0) with h0|h0
  ·cases hp:eW (aO s af).length (kR true (aQ af) (aO s af) (closed (aQ af) (cG af)).1 af) with
   | some q=>
    rw[K5 h12 hc h0 hp] at h⊢;obtain⟨q1,q2,q3⟩:=rh hp;have hn:=Q2 hg q1 q2 (yR q3);have m1:(aO s af).getD q.1 aX∈aO s af:=oS oM;have m2:(aO s af).getD q.2 aX∈aO s af:=oS q2;have nI:=Ks hg q1 q2;have hsm:lV (aQ af) (closed (aQ af) (cG af)).1 ((aO s af).getD q.1 aX) ((aO s af).getD q.2 aX)=true:=(by simp only[kR,if_true,ab] at q3;exact q3.2);have hw:=hwhy (tw _ m1) (tw _ m2) (BT m1 m2) hsm;generalize (aO s af).getD q.1 aX=a at *;generalize (aO s af).getD q.2 aX=b at *;unfold PK at h⊢;rcases aa ((nO s (aQ af) (aO s af) f (af++[kQ a b])).code=1) with hr|hr
    ·rw[if_pos hr,xD,if_neg hdeep];have hF':=hF.more hn fun _=>BT m1 m2;obtain⟨n1,n2,n3,_⟩:=hn;have ih:=Li f (af++[kQ a b]) (cE+1) hF' oM (by rw[n2,n3];exact hr);rw[n2,n3] at ih;have hdf:differ (aO s af) a b=true:=y6.2 ⟨m1,m2,nI⟩;rw[if_neg (by decide),if_neg (by decide),if_pos rfl,hw];have hkk:qh s (aO s af) [(nO s (aQ af) (aO s af) f (af++[kQ a b])).case] [af++[kQ a b]] (cE+1)=true:=(by rw[qh,ih,qh];rfl;intros;contradiction);simp[bare,fL.n,fL.xU,fL.ar,fL.A,fL.B,fL.bt,n0,hdf,hkk]
    rw[if_neg hr] at h;exact absurd h hr
   | none=>
   cases hq:eW (aO s af).length (kR false (aQ af) (aO s af) (closed (aQ af) (cG af)).1 af) with
   | some q=>
    rw[Bb h12 hc h0 hp hq] at h⊢;obtain⟨q1,q2,q3⟩:=rh hq;have hn:=IG hg q1 q2 (Gn q3);have m1:(aO s af).getD q.1 aX∈aO s af:=oS oM;have m2:(aO s af).getD q.2 aX∈aO s af:=oS q2;have nI:=Ks hg q1 q2;generalize (aO s af).getD q.1 aX=a at *;generalize (aO s af).getD q.2 aX=b at *;obtain⟨p1,p2⟩:=UF h;rw[p1,xD,if_neg hdeep];have l6:qh s (aO s af) (((lr a b).map fun l=>af++[l]).map fun l=>(nO s (aQ af) (aO s af) f l).case) ((lr a b).map fun l=>af++[l]) (cE+1)=true:=by
     refine H7 fun L hL=>?_;obtain⟨l,hl,rfl⟩:=bq.1 hL;have hnl:=hn l hl;have hF':=hF.more hnl fun hk=>by simp only[lr,ax,List.not_mem_nil,or_false] at hl;rcases hl with rfl|rfl|rfl;exact BT m1 m2;rw[Fx] at hk;omega;rw[Fx] at hk;omega
     obtain⟨n1,n2,n3,_⟩:=hnl;have ih:=Li f (af++[l]) (cE+1) hF' oM (by rw[n2,n3];exact p2 _ hL);rw[n2,n3] at ih;exact ih
    have hdf:differ (aO s af) a b=true:=y6.2 ⟨m1,m2,nI⟩;rw[if_neg (by decide),if_neg (by decide),if_neg (by decide),if_pos rfl,List.nil_append,l6,hdf];simp[bare,fL.n,fL.xU,fL.ar,fL.A,fL.B,fL.bt,lr]
   | none=>rw[HK h12 hc h0 hp hq] at h;split at h<;>simp[DM] at h
  rw[Mw h12 hc h1 h0] at h;simp[DM] at h
theorem Zf{s:eV}{af:List cC}(h:(gf s af).code=1):LV s af (gf s af).case=true:=by
 have hb:gO s af=true:=by
  cases hb:gO s af with
  | true=>rfl
  | false=>simp[gf,hb] at h
 have e:gf s af=nO s (aQ af) (aO s af) 13 af:=by simp[gf,hb]
 rw[e] at h⊢;rw[LV,hb,Li 13 af 1 (ae6 hb) oM h];rfl
theorem V5{s:eV}{af:List cC}(h:(gf s af).code=1)(m:dZ):gK s m af=false:=WJ (Zf h)
theorem VA{s:eV}{af more:List cC}(h:gO s af=true)(hs:∀l∈more,l∈af)(h6:more.length≤6):gO s more=true:=by
 have hg:=M3 h;have mf:∀l∈more,hU s l.aY=true:=fun l hl=>ID h l (hs l hl);have l6:∀t∈fC more,bR t=true:=fun t ht=>by obtain⟨l,hl,ht⟩:=pd.1 ht;exact hg.all t (pd.2 ⟨l,hs l hl,ht⟩)
 have jY:∀t∈fC more,t∈aQ af:=fun t ht=>by obtain⟨l,hl,ht⟩:=pd.1 ht;exact hg.has l (hs l hl) t ht
 have vi:∀t∈aQ more,t∈aQ af:=by rw[lW,kp l6];exact qo _ [] _ hg.ar jY (by simp)
 have hnd:(aQ more).Nodup:=by rw[lW,kp l6];exact nq _ _ (by simp)
 have h24:=Bs hnd vi;have h4:=Bs (hnd.filter (eQ s)) (m:=aO s af) fun t ht=>by obtain⟨h1,h2⟩:=cX.1 ht;exact cX.2 ⟨vi t h1,h2⟩
 rw[MV] at h4;have:=hg.n24;have:=hg.n4;simp only[gO,ab,decide_eq_true_eq,bh];exact⟨⟨⟨⟨hg.sig,h6⟩,mf⟩,oM⟩,oM⟩
end Go.Mod
