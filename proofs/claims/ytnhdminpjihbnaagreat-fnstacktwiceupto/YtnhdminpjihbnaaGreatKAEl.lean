/-
  Plain laws on literals that are decided: their terms and numbers stay the same where more is told of these. No program is walked here.
-/
import Derived.Test.YtnhdminpjihbnaaGreatKAEk
import Derived.Test.YtnhdminpjihbnaaGreatKADa
set_option linter.unusedVariables false
set_option linter.unusedSimpArgs false
open Bool renaming and_eq_true→ab
open Classical renaming em→aa
open List renaming getElem?_eq_getElem→ae,getElem_mem→ah,drop_eq_getElem_cons→ai,drop_of_length_le→al,mem_cons→ax,map_cons→aJ,mem_append→aM,length_take→a6,mem_cons_of_mem→bf,all_eq_true→bh,mem_map→bq,not_mem_nil→bB,getElem?_eq_none→bL,range→cK,pairwise_cons→cS,mem_append_left→dH,nodup_cons→gz,range'→iC,mem_range→jJ,mem_of_mem_drop→kL,length_range→kU,getElem?_set_ne→mH,pairwise_append→mJ,getElem?_set_self→n7
open Nat renaming lt_or_ge→b7
namespace Go.Mod
open Go.Eng
set_option maxRecDepth 100000
theorem adz{l:List az}{t:az}(h:mo l)(ht:∀k∈t.ar,k∈l):mo (l++[t]):=by intro u hu k hk;rcases aM.1 hu with hu|hu;exact dH _ (h u hu k hk);simp only[ax,bB,or_false] at hu;subst hu;exact dH _ (ht k hk)
mutual
theorem HM:∀(t:az)(l:List az),mo l→mo (eF l t)
 | .mk n ks,l,h=>by have h1:=qX ks l h;rw[eF];split;exact adz h1 (vY ks l);exact h1
theorem qX:∀(ts:List az)(l:List az),mo l→mo (bp l ts)
 | [],l,h=>by rw[bp];exact h
 | t::ts,l,h=>by rw[bp];exact qX ts _ (HM t l h)
end
mutual
theorem Jh:∀(t:az)(l:List az),l.Nodup→(eF l t).Nodup
 | .mk n ks,l,h=>by have h1:=nq ks l h;rw[eF];split;rename_i pz;refine List.nodup_append.2 ⟨h1,by simp,fun x hx y hy e=>?_⟩;simp only[ax,bB,or_false] at hy;rw[e,hy] at hx;have:=gm.2 hx;omega;exact h1
theorem nq:∀(ts:List az)(l:List az),l.Nodup→(bp l ts).Nodup
 | [],l,h=>by rw[bp];exact h
 | t::ts,l,h=>by rw[bp];exact nq ts _ (Jh t l h)
end
mutual
theorem QW:∀(t:az)(l:List az),mo l→t∈l→eF l t=l
 | .mk n ks,l,h,ht=>by have h1:=xL ks l h fun k hk=>h _ ht k hk;rw[eF,h1];rw[if_neg (by have:=gm.2 ht;omega)]
theorem xL:∀(ts:List az)(l:List az),mo l→(∀t∈ts,t∈l)→bp l ts=l
 | [],l,_,_=>by rw[bp]
 | t::ts,l,h,ht=>by rw[bp,QW t l h (ht t (by simp))];exact xL ts l h fun u hu=>ht u (bf _ hu)
end
theorem ML(l:List az)(xs ys:List az):bp l (xs++ys)=bp (bp l xs) ys:=by rw[iR,iR,iR,List.foldl_append]
theorem FW(a b:List cC):fC (a++b)=fC a++fC b:=by simp[fC]
theorem pd{af:List cC}{t:az}:t∈fC af↔∃l∈af,t∈cZ l.aY:=by simp[fC]
structure kO(s:eV)(af:List cC):Prop where
 sig:gy s=true
 fit:∀l∈af,Fit (aO s af) l
 n24:(aQ af).length≤24
 n4:(aO s af).length≤4
section
variable{s:eV}{af:List cC}
theorem M3(h:gO s af=true):kO s af:=by obtain⟨h1,h2,h3,h4,h5,h6,h7,h8⟩:=KZ h;exact⟨h5,h1,h8,h3⟩
variable(h:kO s af)
include h
theorem kO.wf:∀l∈af,dh l.aY=true:=fun l hl=>(h.fit l hl).wf
theorem kO.all:∀t∈fC af,bR t=true:=(kC h.wf).2
theorem kO.MA:aQ af=bp [] (fC af):=by rw[lW,kp h.all]
theorem kO.term:∀t∈aQ af,bR t=true:=by rw[lW];exact tR h.all
theorem kO.ar:mo (aQ af):=by rw[h.MA];exact qX _ _ fun t ht=>by simp at ht
theorem kO.nodup:(aQ af).Nodup:=by rw[h.MA];exact nq _ _ (by simp)
theorem kO.has:∀l∈af,∀t∈cZ l.aY,t∈aQ af:=fun l hl t ht=>by rw[lW];exact CY h.all t (pd.2 ⟨l,hl,ht⟩)
omit h in
theorem tw:∀t∈aO s af,t∈aQ af:=fun t ht=>(List.mem_filter.1 ht).1
theorem kO.num:∀t∈aO s af,bR t=true:=fun t ht=>h.term t (tw t ht)
theorem kO.Bp:(aO s af).Nodup:=h.nodup.filter _
theorem kO.dx:∀e∈cG af,e.A∈aQ af∧e.B∈aQ af∧(e.A∈aO s af↔e.B∈aO s af):=by
 intro e he;simp only[cG,List.mem_filterMap] at he;obtain⟨l,hl,e1⟩:=he;split at e1;rename_i hk;simp only[Option.some.injEq] at e1;have hm:cZ l.aY=[l.aY.A,l.aY.B]:=by simp[cZ,hk.1]
 rw[←e1];exact⟨h.has l hl _ (by rw[hm];simp),h.has l hl _ (by rw[hm];simp),(h.fit l hl).eq hk.1⟩;cases e1
theorem kO.same{l:cC}(hw:dh l.aY=true)(jY:∀t∈cZ l.aY,t∈aQ af):aQ (af++[l])=aQ af:=by
 have l6:∀t∈fC (af++[l]),bR t=true:=by rw[FW];intro t ht;rcases aM.1 ht with ht|ht;exact h.all t ht;obtain⟨l',hl',ht2⟩:=pd.1 ht;simp only[ax,bB,or_false] at hl';rw[hl'] at ht2;exact(nX hw).2 t ht2
 rw[lW,kp l6,FW,ML,←h.MA];refine xL _ _ h.ar fun t ht=>?_;obtain⟨l',hl',ht2⟩:=pd.1 ht;simp only[ax,bB,or_false] at hl';rw[hl'] at ht2;exact jY t ht2
theorem kO.more{l:cC}(hf:Fit (aO s af) l)(jY:∀t∈cZ l.aY,t∈aQ af):kO s (af++[l])∧aQ (af++[l])=aQ af∧aO s (af++[l])=aO s af:=by
 have e1:=h.same hf.wf jY;have e2:aO s (af++[l])=aO s af:=by unfold aO;rw[e1]
 refine⟨⟨h.sig,fun x hx=>?_,by rw[e1];exact h.n24,by rw[e2];exact h.n4⟩,e1,e2⟩;rw[e2];rcases aM.1 hx with hx|hx;exact h.fit x hx;simp only[ax,bB,or_false] at hx;rw[hx];exact hf
omit h in
theorem TQ{a b:az}:cZ (kQ a b).aY=[a,b]:=rfl
omit h in
theorem N2{a b:az}:∀t∈cZ (gC a b).aY,t=a∨t=b:=by intro t ht;unfold gC at ht;split at ht;simp[cZ] at ht;exact ht.symm;simp[cZ] at ht;exact ht
theorem kO.eq{a b:az}(ha:a∈aO s af)(hb:b∈aO s af):kO s (af++[kQ a b])∧aQ (af++[kQ a b])=aQ af∧aO s (af++[kQ a b])=aO s af:=by refine h.more (Xa ha hb (h.num a ha) (h.num b hb)) fun t ht=>?_;rw[TQ] at ht;simp only[ax,bB,or_false] at ht;rcases ht with rfl|rfl;exact tw _ ha;exact tw _ hb
theorem kO.less{a b:az}(ha:a∈aO s af)(hb:b∈aO s af)(nI:a≠b):kO s (af++[gC a b])∧aQ (af++[gC a b])=aQ af∧aO s (af++[gC a b])=aO s af:=by refine h.more (Nl ha hb (h.num a ha) (h.num b hb) nI) fun t ht=>?_;rcases N2 t ht with rfl|rfl;exact tw _ ha;exact tw _ hb
end
def Zh(an:List az)(c:List Nat)(e:lH):List Nat:=if dN an e.A<0 then c else km c (a8 an e.A) (a8 an e.B)
def akd(an:List az)(dx:List lH):List Nat:=dx.foldl (Zh an) (cK an.length)
def qH(i k n:Nat):List (Nat×Nat):=(iC k (n-k)).map (fun k=>(i,k))++fH (i+1) n
theorem Aa{i n:Nat}(h:i<n):fH i n=qH i (i+1) n:=Jd h
theorem AX{i k n:Nat}(h:k<n):qH i k n=(i,k)::qH i (k+1) n:=by unfold qH;rw[tr h];rfl
theorem Db{i k n:Nat}(h:n≤k):qH i k n=fH (i+1) n:=by unfold qH;rw[wc h];rfl
def AP{α:Type}(p:α→Bool)(l:List α)(i:Nat):Option Nat:=(iC i (l.length-i)).find? fun i=>match l[i]? with|none=>false|some x=>p x
theorem Wx{α:Type}(p:α→Bool)(l:List α):qj p l=AP p l 0:=by unfold qj AP;rw[List.range_eq_range',Nat.sub_zero];rfl
theorem SD{α:Type}{p:α→Bool}{l:List α}{i:Nat}(h:i<l.length):AP p l i=if p l[i] then some i else AP p l (i+1):=by unfold AP;rw[tr h,List.find?_cons,ae h];cases hp:p l[i]<;>simp[hp]
theorem U9{α:Type}{p:α→Bool}{l:List α}{i:Nat}(h:l.length≤i):AP p l i=none:=by unfold AP;rw[wc h];rfl
theorem Ri{α:Type}{p:α→Bool}{l:List α}{n:Nat}(h:qj p l=some n):∃hn:n<l.length,p l[n]=true:=by have h1:=List.find?_some h;have h2:=jJ.1 (List.mem_of_find?_eq_some h);refine⟨h2,?_⟩;rw[ae h2] at h1;exact h1
def atI:Option Nat→Int
 | none=>-1
 | some n=>n
def nC(af:List cC)(l:cC):Bool:=af.any fun x=>(x.no == l.no)&&decide (x.aY=l.aY)
def akx(af:List cC)(l:cC)(i:Nat):Bool:=(af.drop i).any fun x=>(x.no == l.no)&&decide (x.aY=l.aY)
def kR(have_:Bool)(aI an:List az)(c:List Nat)(af:List cC)(i k:Nat):Bool:=!iH an af i k&&(if have_ then lV aI c (an.getD i aX) (an.getD k aX) else(!jr an af i k&& !jr an af k i))
def ajb(aI an:List az)(dx:List lH)(c:List Nat):List D:=[.eP (ba aI),.eP (ba an),.eP (lU dx),.eP (eZ c)]
attribute [go_sem] ajb
def ajV(aK:List Row)(r:Row):List Row:=
 match aK.dropWhile fun x=>gL x r with
 | []=>aK.takeWhile (fun x=>gL x r)++[r]
 | x::xs=>if x.name=r.name∧x.args=r.args then aK else aK.takeWhile (fun x=>gL x r)++r::x::xs
theorem VY{aK:List Row}{r x:Row}(h:x∈putRow aK r):x∈aK∨x=r:=by unfold putRow at h;have hs1:∀x∈aK.takeWhile (fun x=>decide (gP x r<0)),x∈aK:=fun x hx=>(List.takeWhile_sublist _).subset hx;have hs2:∀x∈aK.dropWhile (fun x=>decide (gP x r<0)),x∈aK:=fun x hx=>(List.dropWhile_sublist _).subset hx;simp only at h;split at h;rcases aM.1 h with h|h;exact .inl (hs1 _ h);exact .inr (by simpa using h);rename_i y ys hd;rw[hd] at hs2;split at h;exact .inl h;rcases aM.1 h with h|h;exact .inl (hs1 _ h);rcases ax.1 h with h|h;exact .inr h;exact .inl (hs2 _ h)
theorem Wh(aK:List Row)(r:Row):(putRow aK r).length≤aK.length+1:=by unfold putRow;have h:=congrArg List.length (List.takeWhile_append_dropWhile (p:=fun x=>decide (gP x r<0)) (l:=aK));rw[List.length_append] at h;simp only;split;rename_i hd;rw[hd] at h;simp at h⊢;omega;rename_i y ys hd;rw[hd] at h;split;omega;simp at h⊢;omega
def y8(p:Row→Bool)(aK:List Row)(i:Nat):Prop:=aK.takeWhile p=aK.take i++(aK.drop i).takeWhile p∧aK.dropWhile p=(aK.drop i).dropWhile p
theorem y8.zero(p:Row→Bool)(aK:List Row):y8 p aK 0:=⟨by simp,by simp⟩
theorem y8.step{p:Row→Bool}{aK:List Row}{i:Nat}(h:y8 p aK i)(hi:i<aK.length)(hp:p aK[i]=true):y8 p aK (i+1):=by obtain⟨h1,h2⟩:=h;rw[ai hi] at h1 h2;rw[List.takeWhile_cons,if_pos hp] at h1;rw[List.dropWhile_cons,if_pos hp] at h2;refine⟨?_,h2⟩;rw[h1,List.take_add_one,ae hi,List.append_assoc];rfl
theorem y8.stop{p:Row→Bool}{aK:List Row}{i:Nat}(h:y8 p aK i)(hi:i<aK.length)(hp:p aK[i]=false):aK.takeWhile p=aK.take i∧aK.dropWhile p=aK[i]::aK.drop (i+1):=by obtain⟨h1,h2⟩:=h;rw[ai hi] at h1 h2;rw[List.takeWhile_cons,if_neg (by rw[hp];simp),List.append_nil] at h1;rw[List.dropWhile_cons,if_neg (by rw[hp];simp)] at h2;exact⟨h1,h2⟩
theorem y8.done{p:Row→Bool}{aK:List Row}{i:Nat}(h:y8 p aK i)(hi:aK.length≤i):aK.takeWhile p=aK∧aK.dropWhile p=[]:=by obtain⟨h1,h2⟩:=h;rw[al hi] at h1 h2;rw[List.take_of_length_le hi] at h1;exact⟨by simpa using h1,h2⟩
theorem ace{aI an:List az}{c:List Nat}{aV:List Rat}{t:az}(hc:∀x∈c,x≤1000)(hv:∀x∈aV,eC x=true):eC (qc aI an c aV t)=true:=by
 have hle:cl c (a8 aI t)≤1000:=by rcases b7 (a8 aI t) c.length with h1|h1;exact hc _ (KY h1);rw[ag3 h1];omega
 unfold qc;split;exact xV oM oM;rcases b7 (a8 an t) aV.length with h1|h1;exact hv _ (oS h1);rw[List.getD_eq_getElem?_getD,bL h1];exact xV oM oM
theorem Lk{aI an:List az}{c:List Nat}{aV:List Rat}{t:az}(hc:∀x∈c,x≤1000)(hv:∀x∈aV,eC x=true):fN (nb aI an c aV t).args=true:=by unfold fN;refine bh.2 fun x hx=>?_;simp only[nb,bq] at hx;obtain⟨k,_,rfl⟩:=hx;exact ace hc hv
theorem LF{au:List mM}(h:(dX au).code=0):(dX au).aV.length=4∧∀x∈(dX au).aV,eC x=true:=by
 have l6:∀v,rG au v=true→v.length=4∧∀x∈v,eC x=true:=fun v hv=>by simp only[rG,C0,ab,decide_eq_true_eq,bh] at hv;exact hv.2.1
 have hend:∀s0 s1 s2 s3 aK,(mO au s0 s1 s2 s3 aK).code=0→(mO au s0 s1 s2 s3 aK).aV.length=4∧∀x∈(mO au s0 s1 s2 s3 aK).aV,eC x=true:=fun s0 s1 s2 s3 aK h=>by unfold mO at h⊢;split at h;split at h<;>simp at h;split at h;simp at h;split at h;rename_i hf;rw[if_pos hf];exact l6 _ hf;simp at h
 unfold dX at h⊢;split at h;rename_i hs;rw[if_pos hs];split at h;simp at h;split at h;simp at h;split at h;simp at h;split at h;simp at h;exact hend _ _ _ _ _ h;simp at h
theorem Sx{t:az}(h:bR t=true):t.ar.length≤2:=by
 have h1:=jt h;cases t with
 | mk n ks=>simp only[bX,ab,decide_eq_true_eq] at h1;exact h1.2.1
theorem zI{a:bz}(h:dh a=true):a.bt.length≤4:=by rcases aa (a.kind=1) with h1|h1;simp only[dh,if_pos h1,ab,decide_eq_true_eq] at h;omega;rcases aa (a.kind=2) with h2|h2;have:=qC h h2;omega;simp[dh,h1,h2] at h
section
variable{s:eV}{af:List cC}(h:kO s af)
include h
theorem kO.ai0:∀t∈aQ af,t.ar.length≤1000:=fun t ht=>by have:=Sx (h.term t ht);omega
theorem kO.aj0:(aQ af).length≤1000:=by have:=h.n24;omega
theorem kO.OM:∀e∈cG af,e.A∈aQ af∧e.B∈aQ af:=fun e he=>⟨(h.dx e he).1,(h.dx e he).2.1⟩
theorem kO.ajA:(closed (aQ af) (cG af)).1.length=(aQ af).length:=Um (qF h.OM)
theorem kO.Yb:∀x∈(closed (aQ af) (cG af)).1,x≤1000:=by
 have hk:=qF h.OM;have h1:=DY hk _ (Nat.le_refl _);rw[←hk.2] at h1;intro x hx;have h2:=ac5 hx;have h3:(cK (aQ af).length).sum≤(cK (aQ af).length).length*23:=yq fun x hx=>by have:=jJ.1 hx;have:=h.n24;omega
 have h4:(cK (aQ af).length).length*23≤24*23:=Nat.mul_le_mul_right _ (by simpa using h.n24);omega
theorem kO.acG:∀l∈af,l.aY.kind=1→l.aY.A∈aQ af∧l.aY.B∈aQ af:=fun l hl hk=>by
 have hm:cZ l.aY=[l.aY.A,l.aY.B]:=by simp[cZ,hk]
 exact⟨h.has l hl _ (by rw[hm];simp),h.has l hl _ (by rw[hm];simp)⟩
end
theorem MV(s:eV)(af:List cC):(aQ af).filter (eQ s)=aO s af:=rfl
theorem Gn{aI an:List az}{c:List Nat}{af:List cC}{i k:Nat}(h:kR false aI an c af i k=true):tQ an af i k=true:=h
theorem yR{v:Bool}{aI an:List az}{c:List Nat}{af:List cC}{i k:Nat}(h:kR v aI an c af i k=true):iH an af i k=false:=by unfold kR at h;cases hl:iH an af i k;rfl;rw[hl] at h;simp at h
def Next(s:eV)(af:List cC)(l:cC):Prop:=kO s (af++[l])∧aQ (af++[l])=aQ af∧aO s (af++[l])=aO s af∧room (aO s af) (af++[l])<room (aO s af) af
theorem Q2{s:eV}{af:List cC}(h:kO s af){i k:Nat}(h1:i<k)(h2:k<(aO s af).length)(hl:iH (aO s af) af i k=false):Next s af (kQ ((aO s af).getD i aX) ((aO s af).getD k aX)):=by obtain⟨g1,g2,g3⟩:=h.eq (a:=(aO s af).getD i aX) (b:=(aO s af).getD k aX) (oS oM) (oS h2);exact⟨g1,g2,g3,agM h.Bp h1 h2 hl⟩
theorem Ks{s:eV}{af:List cC}(h:kO s af){i k:Nat}(h1:i<k)(h2:k<(aO s af).length):(aO s af).getD i aX≠(aO s af).getD k aX:=fun e=>by have a1:=r9 h.Bp (by omega:i<(aO s af).length);have a2:=r9 h.Bp h2;rw[kN oM,kN h2] at e;rw[e] at a1;omega
theorem Zz{s:eV}{af:List cC}(h:kO s af){i k:Nat}(h1:i<k)(h2:k<(aO s af).length)(hl:tQ (aO s af) af i k=true):Next s af (gC ((aO s af).getD i aX) ((aO s af).getD k aX))∧Next s af (gC ((aO s af).getD k aX) ((aO s af).getD i aX)):=by have nI:=Ks h h1 h2;have hi:=oS (d:=aX) (by omega:i<(aO s af).length);have hk:=oS (d:=aX) h2;obtain⟨g1,g2,g3⟩:=h.less hi hk nI;obtain⟨f1,f2,f3⟩:=h.less hk hi (Ne.symm nI);exact⟨⟨g1,g2,g3,OH h1 h2 hl (.inl rfl)⟩,⟨f1,f2,f3,OH h1 h2 hl (.inr rfl)⟩⟩
theorem IG{s:eV}{af:List cC}(h:kO s af){i k:Nat}(h1:i<k)(h2:k<(aO s af).length)(hl:tQ (aO s af) af i k=true):∀l∈lr ((aO s af).getD i aX) ((aO s af).getD k aX),Next s af l:=by have hlk:iH (aO s af) af i k=false:=yR (v:=false) (aI:=[]) (c:=[]) hl;obtain⟨n1,n2⟩:=Zz h h1 h2 hl;intro l hm;simp only[lr,ax,bB,or_false] at hm;rcases hm with rfl|rfl|rfl;exact Q2 h h1 h2 hlk;exact n1;exact n2
theorem zb{run:List cC→HO}{a b:az}{l:List cC}{ls:List (List cC)}{out:List fL}:yi run a b (l::ls) out=if(run l).code=1 then yi run a b ls (out++[(run l).case]) else⟨(run l).model,Bk,(run l).code⟩:=rfl
theorem Cw{run:List cC→HO}{a b:az}{out:List fL}:yi run a b [] out=⟨sw,.mk 4 0 E1 [] a b out,1⟩:=rfl
section
variable{s:eV}{aI an:List az}{f:Nat}{af:List cC}
theorem KE(h:12<(cG af).length):nO s aI an (f+1) af=DM:=by simp only[nO,if_pos h]
variable(h:¬12<(cG af).length)
include h
theorem Hr{n:Nat}(hc:qj (qq aI (closed aI (cG af)).1) af=some n):nO s aI an (f+1) af=⟨sw,.mk 1 n (o9 aI (closed aI (cG af)).2 (af.getD n Hc).aY.A (af.getD n Hc).aY.B) [] aX aX [],1⟩:=by simp only[nO,if_neg h,hc]
variable(hc:qj (qq aI (closed aI (cG af)).1) af=none)
include hc
theorem Lf(hf:(dX (iL an af)).code=1):nO s aI an (f+1) af=⟨sw,.mk 2 0 E1 (dX (iL an af)).bt aX aX [],1⟩:=by simp only[nO,if_neg h,hc,if_pos hf]
theorem Mw(hf:(dX (iL an af)).code≠1)(hf2:(dX (iL an af)).code≠0):nO s aI an (f+1) af=DM:=by simp only[nO,if_neg h,hc,if_neg hf,if_pos hf2]
variable(hf:(dX (iL an af)).code=0)
include hf
theorem K5{q:Nat×Nat}(hp:eW an.length (kR true aI an (closed aI (cG af)).1 af)=some q):nO s aI an (f+1) af=PK (o9 aI (closed aI (cG af)).2 (an.getD q.1 aX) (an.getD q.2 aX)) (nO s aI an f (af++[kQ (an.getD q.1 aX) (an.getD q.2 aX)])):=by have hp':eW an.length (fun i k=>!iH an af i k&&lV aI (closed aI (cG af)).1 (an.getD i aX) (an.getD k aX))=some q:=hp;have h1:¬ (dX (iL an af)).code=1:=oM;simp only[nO,if_neg h,hc,if_neg h1,hf,ne_eq,not_true_eq_false,if_false,hp'];rw[if_neg (by decide)]
variable(hp:eW an.length (kR true aI an (closed aI (cG af)).1 af)=none)
include hp
theorem Bb{q:Nat×Nat}(hq:eW an.length (kR false aI an (closed aI (cG af)).1 af)=some q):nO s aI an (f+1) af=yi (nO s aI an f) (an.getD q.1 aX) (an.getD q.2 aX) ((lr (an.getD q.1 aX) (an.getD q.2 aX)).map fun l=>af++[l]) []:=by have hp':eW an.length (fun i k=>!iH an af i k&&lV aI (closed aI (cG af)).1 (an.getD i aX) (an.getD k aX))=none:=hp;have hq':eW an.length (fun i k=>!iH an af i k&&(!jr an af i k&& !jr an af k i))=some q:=hq;have h1:¬ (dX (iL an af)).code=1:=oM;simp only[nO,if_neg h,hc,if_neg h1,hf,ne_eq,not_true_eq_false,if_false,hp',hq'];rw[if_neg (by decide)]
variable(hq:eW an.length (kR false aI an (closed aI (cG af)).1 af)=none)
include hq
theorem HK:nO s aI an (f+1) af=if gK s ⟨mv aI an (closed aI (cG af)).1 (dX (iL an af)).aV⟩ af=true then⟨⟨mv aI an (closed aI (cG af)).1 (dX (iL an af)).aV⟩,Bk,0⟩ else DM:=by have hp':eW an.length (fun i k=>!iH an af i k&&lV aI (closed aI (cG af)).1 (an.getD i aX) (an.getD k aX))=none:=hp;have hq':eW an.length (fun i k=>!iH an af i k&&(!jr an af i k&& !jr an af k i))=none:=hq;have h1:¬ (dX (iL an af)).code=1:=oM;simp only[nO,if_neg h,hc,if_neg h1,hf,ne_eq,not_true_eq_false,if_false,hp',hq'];rw[if_neg (by decide)]
end
def DA(e:Edge):List D:=[.val (.int .i64 (e.step:Int)),.val (.bool e.back)]
def eG(l:List Edge):List (List D):=l.map DA
theorem QG(l:List Edge):(eG l).length=l.length:=by simp[eG]
theorem yU{l:List Edge}{i:Nat}(h:i<l.length):row (eG l) i=DA l[i]:=by simp[eG,row,List.getD,ae h]
theorem Qk(l:List Edge):∀y∈eG l,y.length=2:=by intro y hy;obtain⟨t,_,rfl⟩:=bq.1 hy;rfl
theorem vd(a b:List Edge):eG a++eG b=eG (a++b):=by simp[eG]
theorem rz:eG []=[]:=rfl
theorem s5(n:Edge)(l:List Edge):eG (n::l)=DA n::eG l:=rfl
theorem RK{l:List Edge}{i:Nat}{e:Edge}:(eG l).set i (DA e)=eG (l.set i e):=by simp[eG,List.map_set]
attribute [go_sem] QG yU rz DA
structure QM{α:Type}(l ys:List α)(i:Nat):Prop where
 len:ys.length=l.length
 at_:∀k,k<l.length→ys[k]?=if k<i∨l.length-1-k<i then l[l.length-1-k]? else l[k]?
theorem QM.zero{α:Type}(l:List α):QM l l 0:=⟨rfl,fun k _=>by simp⟩
theorem QM.step{α:Type}{l ys:List α}{i j:Nat}(h:QM l ys i)(hij:i<j)(hj:i+j+1=l.length)(hi':i<ys.length)(hj':j<ys.length):QM l ((ys.set i ys[j]).set j ys[i]) (i+1):=by have fj:=h.len;refine⟨by simp[fj],fun k hk=>?_⟩;have e1:ys[j]?=some ys[j]:=ae hj';have e2:ys[i]?=some ys[i]:=ae hi';have a1:=h.at_ j oM;have a2:=h.at_ i oM;have a3:=h.at_ k hk;rw[if_neg oM] at a1 a2;rw[e1] at a1;rw[e2] at a2;rcases Nat.lt_trichotomy k j with h1|h1|h1;rw[mH oM];rcases aa (k=i) with h2|h2;subst h2;rw[n7 hi',if_pos (.inl oM),a1];congr 1;omega;rw[mH oM,a3];rcases aa (k<i∨l.length-1-k<i) with h3|h3;rw[if_pos h3,if_pos oM];rw[if_neg h3,if_neg oM];subst h1;rw[n7 (by simpa using hj'),if_pos (.inr oM),a2];congr 1;omega;rw[mH oM,mH oM,a3,if_pos oM,if_pos oM]
theorem QM.done{α:Type}{l ys:List α}{i:Nat}(h:QM l ys i)(hi:l.length≤2*i+1):ys=l.reverse:=by apply List.ext_getElem?;intro k;rcases b7 k l.length with h1|h1;rw[h.at_ k h1,List.getElem?_reverse h1];rcases aa (k<i∨l.length-1-k<i) with h2|h2;rw[if_pos h2];rw[if_neg h2];congr 1;omega;rw[bL (by rw[h.len];exact h1),bL (by simpa using h1)]
def Ef(db:List (Nat×Edge)):List (Int×Value):=(kE db).map fun(v:Nat)=>((v:Int),Value.bool true)
def rn(db:List (Nat×Edge)):List (Int×Value):=(db.drop 1).map fun p=>((p.1:Int),Value.agg #[.int .i64 (p.2.step:Int),.bool p.2.back])
theorem Fk(a b:List (Nat×Edge)):Ef (a++b)=Ef a++Ef b:=by simp[Ef,kE]
theorem wP{a:List (Nat×Edge)}{p:Nat×Edge}(h:0<a.length):rn (a++[p])=rn a++[((p.1:Int),Value.agg #[.int .i64 (p.2.step:Int),.bool p.2.back])]:=by unfold rn;rw[List.drop_append_of_le_length oM,List.map_append];rfl
theorem Pp:∀{l:List Nat}{n:Nat},n∈l→mR (l.map fun(v:Nat)=>((v:Int),Value.bool true)) (n:Int)=some (.bool true)
 | v::l,n,h=>by simp only[aJ,mR];rcases aa ((n:Int)=(v:Int)) with h1|h1;rw[if_pos h1];rw[if_neg h1];rcases ax.1 h with h|h;exact absurd (by rw[h]) h1;exact Pp h
theorem M9:∀{l:List Nat}{n:Nat},n∉l→mR (l.map fun(v:Nat)=>((v:Int),Value.bool true)) (n:Int)=none
 | [],_,_=>rfl
 | v::l,n,h=>by simp only[aJ,mR];rw[if_neg (fun e=>h (by simp[show n=v by omega]))];exact M9 fun h1=>h (bf _ h1)
theorem Ek{db:List (Nat×Edge)}{n:Nat}(h:n∈kE db):mR (Ef db) (n:Int)=some (.bool true):=Pp h
theorem uP{db:List (Nat×Edge)}{n:Nat}(h:n∉kE db):mR (Ef db) (n:Int)=none:=M9 h
theorem E7:∀{l:List (Nat×Edge)}{j:Nat}{v:Nat}{e:Edge},(l.map Prod.fst).Nodup→l[j]?=some (v,e)→mR (l.map fun p=>((p.1:Int),Value.agg #[.int .i64 (p.2.step:Int),.bool p.2.back])) (v:Int)=some (.agg #[.int .i64 (e.step:Int),.bool e.back])
 | [],j,v,e,_,h=>by simp at h
 | p::l,0,v,e,_,h=>by simp only[List.getElem?_cons_zero,Option.some.injEq] at h;subst h;simp[mR]
 | p::l,j+1,v,e,hn,h=>by simp only[List.getElem?_cons_succ] at h;simp only[aJ,gz] at hn;have hm:v∈l.map Prod.fst:=bq.2 ⟨(v,e),List.mem_of_getElem? h,rfl⟩;simp only[aJ,mR];rw[if_neg (fun e1=>hn.1 (by rw[show p.1=v by omega];exact hm))];exact E7 hn.2 h
theorem NF{db:List (Nat×Edge)}(hn:(kE db).Nodup){j v:Nat}{e:Edge}(hj:0<j)(h:db[j]?=some (v,e)):mR (rn db) (v:Int)=some (.agg #[.int .i64 (e.step:Int),.bool e.back]):=by refine E7 (j:=j-1) ?_ ?_;rw[List.map_drop];exact hn.sublist (List.drop_sublist _ _);rw[List.getElem?_drop,show 1+(j-1)=j by omega];exact h
theorem vT{db:List (Nat×Edge)}{n:Nat}(h:n∉kE db):mR (rn db) (n:Int)=none:=by
 have key:∀{l:List (Nat×Edge)},(∀p∈l,p.1≠n)→mR (l.map fun p=>((p.1:Int),Value.agg #[.int .i64 (p.2.step:Int),.bool p.2.back])) (n:Int)=none:=by
  intro l;induction l with
  | nil=>intro _;rfl
  | cons p l ih=>intro hl;simp only[aJ,mR];rw[if_neg (fun e=>hl p (by simp) oM)];exact ih fun q hq=>hl q (bf _ hq)
 refine key fun p hp e=>h ?_;rw[←e];exact bq.2 ⟨p,kL hp,rfl⟩
def DN(ao:List Step)(k:Nat)(db:List (Nat×Edge))(v:Nat):Prop:=∀j,j<k→(vA ao j=v→vB ao j∈kE db)∧(vB ao j=v→vA ao j∈kE db)
theorem Sr(ao:List Step)(db:List (Nat×Edge))(v:Nat):DN ao 0 db v:=fun j hj=>by omega
theorem Vo{ao:List Step}{n:Nat}{db:List (Nat×Edge)}{v:Nat}(h:DN ao n db v):Seen ao n db v:=h
theorem qO{ao:List Step}{k:Nat}{db:List (Nat×Edge)}{v:Nat}(h:DN ao k db v)(h1:vA ao k=v→vB ao k∈kE db)(h2:vB ao k=v→vA ao k∈kE db):DN ao (k+1) db v:=fun j hj=>by rcases b7 j k with h3|h3;exact h j h3;obtain rfl:j=k:=oM;exact⟨h1,h2⟩
theorem I4{ao:List Step}{k:Nat}{a b:List (Nat×Edge)}{v:Nat}(h:DN ao k a v):DN ao k (a++b) v:=Pj (n:=k) h
theorem Ph:∀(rs:List Row)(t:Row),rs.takeWhile (fun x=>decide (gP x t<0))=rs.take (cut rs t)∧rs.dropWhile (fun x=>decide (gP x t<0))=rs.drop (cut rs t)
 | [],_=>by simp[cut]
 | r::rs,t=>by obtain⟨h1,h2⟩:=Ph rs t;rcases aa (gP r t<0) with h|h;simp[cut,h,h1,h2];simp[cut,h]
theorem vH(rs:List Row)(t:Row):putRow rs t=if found rs t then rs else rs.take (cut rs t)++t::rs.drop (cut rs t):=by obtain⟨h1,h2⟩:=Ph rs t;unfold putRow found;simp only[h1,h2];rcases b7 (cut rs t) rs.length with h|h;rw[ai h,ae h];rcases aa (gP rs[cut rs t] t=0) with hc|hc;simp[hc];simp[hc];rw[al h,bL h];simp
theorem CZ{a b:Rat}(ha:eC a=true)(hb:eC b=true)(h:a≠b):gW a b=true∨gW b a=true:=by rw[lD ha hb,lD hb ha];have h1:a.N*b.D≠b.N*a.D:=fun e=>h (O1 ha hb e);omega
theorem Bo:∀{as bs:List Rat},fN as=true→fN bs=true→as.length=bs.length→as≠bs→lP as bs=true∨lP bs as=true
 | [],[],_,_,_,h=>absurd rfl h
 | [],b::bs,_,_,h,_=>by simp at h
 | a::as,[],_,_,h,_=>by simp at h
 | a::as,b::bs,h1,h2,h3,h4=>by simp only[fN,List.all_cons,ab] at h1 h2;simp only[lP];rcases aa (a=b) with h|h;rw[if_pos h,if_pos h.symm];exact Bo h1.2 h2.2 (by simpa using h3) fun e=>h4 (by rw[h,e]);rw[if_neg h,if_neg (Ne.symm h)];exact CZ h1.1 h2.1 h
theorem TU{a b:p8}(h:a≠b):kn a b=true∨kn b a=true:=by cases h1:kn a b;cases h2:kn b a;exact absurd (th.1 (by simp[qw,h1,h2])) h;exact .inr rfl;exact .inl rfl
theorem N8{a b:Row}(ha:fN a.args=true)(hb:fN b.args=true)(h:¬ (a.name=b.name∧a.args=b.args)):gL a b=true∨gL b a=true:=by unfold gL;rcases aa (a.name=b.name) with h1|h1;rw[if_pos h1,if_pos h1.symm];rcases aa (a.args.length=b.args.length) with h2|h2;rw[if_pos h2,if_pos h2.symm];exact Bo ha hb h2 fun e=>h ⟨h1,e⟩;rw[if_neg h2,if_neg (Ne.symm h2)];rcases b7 a.args.length b.args.length with h3|h3;exact .inl (decide_eq_true h3);exact .inr (decide_eq_true oM);rw[if_neg h1,if_neg (Ne.symm h1)];exact TU h1
theorem OT{rs:List Row}{t:Row}(h1:∀r∈rs,fN r.args=true)(h2:rs.Pairwise (fun a b=>gL a b=true))(ht:fN t.args=true):mZ rs t:=by refine List.Pairwise.imp_of_mem ?_ h2;intro a b ha hb hab hbt;have wa:=h1 a ha;have wb:=h1 b hb;rw[oT wb ht] at hbt;rw[oT wa ht];exact sy wa wb ht hab hbt
theorem Sm{rs:List Row}{t:Row}(h1:∀r∈rs,fN r.args=true)(h2:rs.Pairwise (fun a b=>gL a b=true))(ht:fN t.args=true):(putRow rs t).Pairwise (fun a b=>gL a b=true):=by
 have hm:=OT h1 h2 ht;have hc:=fun k h=>xo hm k h;rw[vH];cases hf:found rs t;rw[if_neg (by simp)];have hsplit:=h2;rw[←List.take_append_drop (cut rs t) rs] at hsplit;obtain⟨p1,p2,p3⟩:=mJ.1 hsplit;have hlo:∀x∈rs.take (cut rs t),gL x t=true:=fun x hx=>by obtain⟨k,hk,rfl⟩:=List.mem_iff_getElem.1 hx;have hk2:k<cut rs t:=(by rw[a6] at hk;omega);have hk3:k<rs.length:=(by rw[a6] at hk;omega);rw[List.getElem_take];exact(oT (h1 _ (ah hk3)) ht).1 ((hc k hk3).1 hk2)
 have hhi:∀y∈rs.drop (cut rs t),gL t y=true:=fun y hy=>by
  rcases b7 (cut rs t) rs.length with h|h;have w0:=h1 _ (ah h);have n1:¬gP rs[cut rs t] t<0:=fun e=>by have:=(hc _ h).2 e;omega
  have n2:gP rs[cut rs t] t≠0:=fun e=>by rw[found,ae h] at hf;simp[e] at hf
  have h0:gL t rs[cut rs t]=true:=by rcases N8 w0 ht (fun e=>n2 ((wG w0 ht).2 e)) with h3|h3;exact absurd ((oT w0 ht).2 h3) n1;exact h3
  rw[ai h] at hy p2;rcases ax.1 hy with rfl|hy2;exact h0;exact sy ht w0 (h1 _ (kL hy2)) h0 ((cS.1 p2).1 y hy2);rw[al h] at hy;simp at hy
 refine mJ.2 ⟨p1,cS.2 ⟨hhi,p2⟩,fun x hx y hy=>?_⟩;rcases ax.1 hy with rfl|hy;exact hlo x hx;exact p3 x hx y hy;rw[if_pos rfl];exact h2
theorem EU{s:eV}{m:dZ}{a c:List cC}(h:gK s m (a++c)=true):gK s m a=true:=by simp only[gK,List.all_append,ab] at h⊢;exact⟨h.1,h.2.1⟩
theorem PE{run:List cC→HO}{a b:az}:∀{ls:List (List cC)}{out:List fL},(yi run a b ls out).code=0→∃l∈ls,(run l).code=0∧(yi run a b ls out).model=(run l).model
 | [],out,h=>by rw[Cw] at h;simp at h
 | l::ls,out,h=>by rw[zb] at h⊢;rcases aa ((run l).code=1) with h1|h1;rw[if_pos h1] at h⊢;obtain⟨x,hx,h2,h3⟩:=PE h;exact⟨x,bf _ hx,h2,h3⟩;rw[if_neg h1] at h⊢;exact⟨l,by simp,h,rfl⟩
theorem KD{run:List cC→HO}{a b:az}:∀{ls:List (List cC)}{out:List fL},(yi run a b ls out).code=1→(yi run a b ls out).case.kind=4
 | [],out,h=>by rw[Cw];rfl
 | l::ls,out,h=>by rw[zb] at h⊢;rcases aa ((run l).code=1) with h1|h1;rw[if_pos h1] at h⊢;exact KD h;rw[if_neg h1] at h;exact absurd h h1
section
variable{s:eV}{aI an:List az}
theorem M7:∀(f:Nat)(af:List cC),((nO s aI an f af).code=0→gK s (nO s aI an f af).model af=true)∧((nO s aI an f af).code=1→1≤(nO s aI an f af).case.kind)
 | 0,af=>by constructor<;>(intro h;simp[nO,DM] at h)
 | f+1,af=>by
  rcases aa (12<(cG af).length) with h12|h12;rw[KE h12];constructor<;>(intro h;simp[DM] at h);cases hc:qj (qq aI (closed aI (cG af)).1) af with
  | some n=>rw[Hr h12 hc];exact⟨fun h=>by simp at h,fun _=>by simp[fL.kind]⟩
  | none=>
  rcases aa ((dX (iL an af)).code=1) with h1|h1;rw[Lf h12 hc h1];exact⟨fun h=>by simp at h,fun _=>by simp[fL.kind]⟩;rcases aa ((dX (iL an af)).code=0) with h0|h0
  ·cases hp:eW an.length (kR true aI an (closed aI (cG af)).1 af) with
   | some q=>rw[K5 h12 hc h0 hp];obtain⟨i1,i2⟩:=M7 f (af++[kQ (an.getD q.1 aX) (an.getD q.2 aX)]);generalize nO s aI an f (af++[kQ (an.getD q.1 aX) (an.getD q.2 aX)])=r at *;unfold PK;rcases aa (r.code=1) with hr|hr;rw[if_pos hr];exact⟨fun h=>by simp at h,fun _=>by simp[fL.kind]⟩;rw[if_neg hr];exact⟨fun h=>EU (i1 h),fun h=>absurd h hr⟩
   | none=>
   cases hq:eW an.length (kR false aI an (closed aI (cG af)).1 af) with
   | some q=>rw[Bb h12 hc h0 hp hq];refine⟨fun h=>?_,fun h=>by rw[KD h];omega⟩;obtain⟨l,hl,h2,h3⟩:=PE h;rw[h3];obtain⟨x,_,rfl⟩:=bq.1 hl;exact EU ((M7 f (af++[x])).1 h2)
   | none=>rw[HK h12 hc h0 hp hq];rcases aa (gK s ⟨mv aI an (closed aI (cG af)).1 (dX (iL an af)).aV⟩ af=true) with hm|hm;rw[if_pos hm];exact⟨fun _=>hm,fun h=>by simp at h⟩;rw[if_neg hm];constructor<;>(intro h;simp[DM] at h)
  rw[Mw h12 hc h1 h0];constructor<;>(intro h;simp[DM] at h)
theorem adl{af:List cC}(h:(gf s af).code=0):gK s (gf s af).model af=true:=by unfold gf at h⊢;split at h;rename_i hb;rw[if_pos hb];exact(M7 13 af).1 h;simp at h
end
def ajW(s:eV)(af:List cC):List lH:=if gO s af then cG af else []
def ajl(s:eV)(af:List cC):List mM:=if gO s af then iL (aO s af) af else []
def ai4(s:eV)(af:List cC):List az:=if gO s af then aO s af else []
theorem Bs{α:Type}[DecidableEq α]:∀{l m:List α},l.Nodup→(∀x∈l,x∈m)→l.length≤m.length
 | [],_,_,_=>Nat.zero_le _
 | x::l,m,hn,hs=>by have hx:x∈m:=hs x (by simp);obtain⟨h1,h2⟩:=gz.1 hn;have h3:=Bs (l:=l) (m:=m.erase x) h2 fun y hy=>(List.mem_erase_of_ne (show y≠x from fun e=>h1 (by rw[←e];exact hy))).2 (hs y (by simp[hy]));have h4:=List.length_erase_of_mem hx;have h5:=List.length_pos_of_mem hx;simp only[List.length_cons];omega
mutual
theorem Mr:∀(t:az)(l p:List az),mo p→t∈p→(∀u∈l,u∈p)→∀u∈eF l t,u∈p
 | .mk n ks,l,p,hp,ht,hl,u,hu=>by have h1:=qo ks l p hp (fun k hk=>hp _ ht k hk) hl;rw[eF] at hu;split at hu;simp only[aM,ax,bB,or_false] at hu;rcases hu with hu|rfl;exact h1 u hu;exact ht;exact h1 u hu
theorem qo:∀(ts l p:List az),mo p→(∀t∈ts,t∈p)→(∀u∈l,u∈p)→∀u∈bp l ts,u∈p
 | [],l,p,_,_,hl,u,hu=>hl u (by simpa[bp] using hu)
 | t::ts,l,p,hp,ht,hl,u,hu=>by rw[bp] at hu;exact qo ts _ p hp (fun x hx=>ht x (by simp[hx])) (Mr t l p hp (ht t (by simp)) hl) u hu
end
theorem Uv{ts p:List az}(h:∀t∈ts,bR t=true)(hp:mo p)(hs:∀t∈ts,t∈p):(ov ts).length≤p.length:=by rw[kp h];exact Bs (nq ts [] (by simp)) (qo ts [] p hp hs (by simp))
theorem PS{dx:List lH}{t:az}:t∈MI dx↔∃e∈dx,t=e.A∨t=e.B:=by simp[MI]
theorem HT{af:List cC}{e:lH}:e∈cG af↔∃l∈af,l.aY.kind=1∧l.no=false∧e=⟨l.aY.A,l.aY.B⟩:=by simp only[cG,List.mem_filterMap];constructor;rintro⟨l,hl,h⟩;split at h;rename_i hk;exact⟨l,hl,hk.1,hk.2,(Option.some.inj h).symm⟩;cases h;rintro⟨l,hl,h1,h2,h3⟩;exact⟨l,hl,by rw[if_pos ⟨h1,h2⟩,h3]⟩
section
variable{s:eV}{af:List cC}(h:gO s af=true)
include h
theorem ID:∀l∈af,hU s l.aY=true:=by simp only[gO,ab,decide_eq_true_eq,bh] at h;exact h.1.1.2
end
theorem Mt{c:List Nat}{a b i k:Nat}(hi:i<c.length)(hk:k<c.length)(h:cl c i=cl c k):cl (km c a b) i=cl (km c a b) k:=by rw[Bd hi,Bd hk,h]
theorem uM{aj:List az}:∀(dx:List lH)(n:Nat)(c:List Nat)(ao:List Step){i k:Nat},i<c.length→k<c.length→cl c i=cl c k→(mw aj n dx c ao).1.length=c.length∧cl (mw aj n dx c ao).1 i=cl (mw aj n dx c ao).1 k
 | [],_,_,_,_,_,_,_,h=>⟨rfl,h⟩
 | e::es,n,c,ao,i,k,hi,hk,h=>by rw[mw];split;exact uM es (n+1) c ao hi hk h;have:=uM (aj:=aj) es (n+1) (km c (a8 aj e.A) (a8 aj e.B)) (ao++[⟨a8 aj e.A,a8 aj e.B,n⟩]) (i:=i) (k:=k) (by rw[j8];exact hi) (by rw[j8];exact hk) (Mt hi hk h);rw[j8] at this;exact this
theorem aau{c:List Nat}{a b:Nat}(ha:a<c.length)(hb:b<c.length):cl (km c a b) a=cl (km c a b) b:=(Pw ha hb).2 (.inr (.inl ⟨rfl,rfl⟩))
theorem Ap{aj:List az}:∀(dx:List lH)(n:Nat)(c:List Nat)(ao:List Step),c.length=aj.length→(∀e∈dx,e.A∈aj∧e.B∈aj)→∀e∈dx,cl (mw aj n dx c ao).1 (a8 aj e.A)=cl (mw aj n dx c ao).1 (a8 aj e.B)
 | [],_,_,_,_,_,e,he=>by simp at he
 | x::es,n,c,ao,hc,jY,e,he=>by have hx:=jY x (by simp);have pA:a8 aj x.A<c.length:=(by rw[hc];exact df hx.1);have pB:a8 aj x.B<c.length:=(by rw[hc];exact df hx.2);rw[mw];split;rename_i hs;rcases ax.1 he with rfl|he;exact(uM es (n+1) c ao pA pB hs).2;exact Ap es (n+1) c ao hc (fun y hy=>jY y (by simp[hy])) e he;rcases ax.1 he with rfl|he;exact(uM es (n+1) _ _ (by rw[j8];exact pA) (by rw[j8];exact pB) (aau pA pB)).2;exact Ap es (n+1) _ _ (by rw[j8];exact hc) (fun y hy=>jY y (by simp[hy])) e he
theorem w7{aj:List az}:∀(dx:List lH)(n:Nat)(c:List Nat)(ao:List Step),(mw aj n dx c ao).1.length=c.length
 | [],_,_,_=>rfl
 | e::es,n,c,ao=>by rw[mw];split;exact w7 es (n+1) c ao;rw[w7 es (n+1),j8]
theorem Ey{aj:List az}:∀(f:Nat)(c:List Nat)(ao:List Step){i k:Nat},i<c.length→k<c.length→cl c i=cl c k→cl (nU aj f c ao).1 i=cl (nU aj f c ao).1 k
 | 0,_,_,_,_,_,_,h=>h
 | f+1,c,ao,i,k,hi,hk,h=>by rw[nU];split;exact h;exact Ey f _ _ (by rw[j8];exact hi) (by rw[j8];exact hk) (Mt hi hk h)
theorem V0{aj:List az}{dx:List lH}(jY:∀e∈dx,e.A∈aj∧e.B∈aj){e:lH}(he:e∈dx):lV aj (closed aj dx).1 e.A e.B=true:=by
 have hl:(given aj dx).1.length=aj.length:=by rw[given,w7,kU]
 have h1:=jY e he;refine decide_eq_true (Ey _ _ _ (by rw[hl];exact df h1.1) (by rw[hl];exact df h1.2) ?_);exact Ap dx 0 _ _ kU jY e he
end Go.Mod
