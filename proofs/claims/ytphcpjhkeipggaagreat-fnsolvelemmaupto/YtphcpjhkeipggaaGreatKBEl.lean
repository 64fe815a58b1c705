/-
  Plain laws on literals that are decided: their terms and numbers stay the same where more is told of these. No program is walked here.
-/
import Derived.Test.YtphcpjhkeipggaaGreatKBEk
import Derived.Test.YtphcpjhkeipggaaGreatKBDa
set_option linter.unusedVariables false
set_option linter.unusedSimpArgs false
open Bool renaming and_eq_true→ah
open Classical renaming em→aa
open List renaming drop_eq_getElem_cons→ae,getElem?_eq_getElem→af,getElem_mem→aj,drop_of_length_le→ak,mem_cons→az,mem_append→aO,map_cons→aV,not_mem_nil→bf,length_take→bl,mem_cons_of_mem→bw,range→bK,getElem?_eq_none→bM,mem_map→bN,all_eq_true→cV,nodup_cons→da,mem_append_left→dI,range'→fk,mem_of_mem_drop→gg,mem_range→gz,length_range→ij,pairwise_cons→lP,getElem?_set_ne→mu,takeWhile_cons→pJ,dropWhile_cons→pK
open Nat renaming lt_or_ge→cz
namespace Go.Mod
open Go.Eng
set_option maxRecDepth 100000
theorem ZA{l:List ax}{t:ax}(h:jv l)(ht:∀k∈t.ar,k∈l):jv (l++[t]):=by intro u hu k hk;rcases aO.1 hu with hu|hu;exact dI _ (h u hu k hk);simp only[az,bf,or_false] at hu;subst hu;exact dI _ (ht k hk)
mutual
theorem Gy:∀(t:ax)(l:List ax),jv l→jv (dY l t)
 | .mk n ks,l,h=>by have h1:=qS ks l h;rw[dY];split;exact ZA h1 (vG ks l);exact h1
theorem qS:∀(ts:List ax)(l:List ax),jv l→jv (bp l ts)
 | [],l,h=>by rw[bp];exact h
 | t::ts,l,h=>by rw[bp];exact qS ts _ (Gy t l h)
end
mutual
theorem Jh:∀(t:ax)(l:List ax),l.Nodup→(dY l t).Nodup
 | .mk n ks,l,h=>by have h1:=o7 ks l h;rw[dY];split;rename_i nS;refine List.nodup_append.2 ⟨h1,by simp,fun x hx y hy e=>?_⟩;simp only[az,bf,or_false] at hy;rw[e,hy] at hx;have:=dE.2 hx;omega;exact h1
theorem o7:∀(ts:List ax)(l:List ax),l.Nodup→(bp l ts).Nodup
 | [],l,h=>by rw[bp];exact h
 | t::ts,l,h=>by rw[bp];exact o7 ts _ (Jh t l h)
end
mutual
theorem QV:∀(t:ax)(l:List ax),jv l→t∈l→dY l t=l
 | .mk n ks,l,h,ht=>by have h1:=xt ks l h fun k hk=>h _ ht k hk;rw[dY,h1];rw[if_neg (by have:=dE.2 ht;omega)]
theorem xt:∀(ts:List ax)(l:List ax),jv l→(∀t∈ts,t∈l)→bp l ts=l
 | [],l,_,_=>by rw[bp]
 | t::ts,l,h,ht=>by rw[bp,QV t l h (ht t (by simp))];exact xt ts l h fun u hu=>ht u (bw _ hu)
end
theorem Mj(l:List ax)(xs ys:List ax):bp l (xs++ys)=bp (bp l xs) ys:=by rw[iE,iE,iE,List.foldl_append]
theorem EP(a b:List bL):fO (a++b)=fO a++fO b:=by simp[fO]
theorem yz{ab:List bL}{t:ax}:t∈fO ab↔∃l∈ab,t∈cY l.aN:=by simp[fO]
structure jK(s:eM)(ab:List bL):Prop where
 sig:gC s=true
 fit:∀l∈ab,Fit (aG s ab) l
 n24:(aL ab).length≤24
 n4:(aG s ab).length≤4
section
variable{s:eM}{ab:List bL}
theorem LD(h:gn s ab=true):jK s ab:=by obtain⟨h1,h2,h3,h4,h5,h6,h7,h8⟩:=xS h;exact⟨h5,h1,h8,h3⟩
variable(h:jK s ab)
include h
theorem jK.wf:∀l∈ab,dq l.aN=true:=fun l hl=>(h.fit l hl).wf
theorem jK.all:∀t∈fO ab,bG t=true:=(kp h.wf).2
theorem jK.LX:aL ab=bp [] (fO ab):=by rw[nI,mC h.all]
theorem jK.term:∀t∈aL ab,bG t=true:=by rw[nI];exact tI h.all
theorem jK.ar:jv (aL ab):=by rw[h.LX];exact qS _ _ fun t ht=>by simp at ht
theorem jK.nodup:(aL ab).Nodup:=by rw[h.LX];exact o7 _ _ (by simp)
theorem jK.has:∀l∈ab,∀t∈cY l.aN,t∈aL ab:=fun l hl t ht=>by rw[nI];exact Cm h.all t (yz.2 ⟨l,hl,ht⟩)
omit h in
theorem rr:∀t∈aG s ab,t∈aL ab:=fun t ht=>(List.mem_filter.1 ht).1
theorem jK.num:∀t∈aG s ab,bG t=true:=fun t ht=>h.term t (rr t ht)
theorem jK.wh:(aG s ab).Nodup:=h.nodup.filter _
theorem jK.bB:∀e∈br ab,e.A∈aL ab∧e.B∈aL ab∧(e.A∈aG s ab↔e.B∈aG s ab):=by
 intro e he;simp only[br,List.mem_filterMap] at he;obtain⟨l,hl,e1⟩:=he;split at e1;rename_i hk;simp only[Option.some.injEq] at e1;have hm:cY l.aN=[l.aN.A,l.aN.B]:=by simp[cY,hk.1]
 rw[←e1];exact⟨h.has l hl _ (by rw[hm];simp),h.has l hl _ (by rw[hm];simp),(h.fit l hl).eq hk.1⟩;cases e1
theorem jK.same{l:bL}(hw:dq l.aN=true)(kI:∀t∈cY l.aN,t∈aL ab):aL (ab++[l])=aL ab:=by
 have nq:∀t∈fO (ab++[l]),bG t=true:=by rw[EP];intro t ht;rcases aO.1 ht with ht|ht;exact h.all t ht;obtain⟨l',hl',ht2⟩:=yz.1 ht;simp only[az,bf,or_false] at hl';rw[hl'] at ht2;exact(pr hw).2 t ht2
 rw[nI,mC nq,EP,Mj,←h.LX];refine xt _ _ h.ar fun t ht=>?_;obtain⟨l',hl',ht2⟩:=yz.1 ht;simp only[az,bf,or_false] at hl';rw[hl'] at ht2;exact kI t ht2
theorem jK.more{l:bL}(hf:Fit (aG s ab) l)(kI:∀t∈cY l.aN,t∈aL ab):jK s (ab++[l])∧aL (ab++[l])=aL ab∧aG s (ab++[l])=aG s ab:=by
 have e1:=h.same hf.wf kI;have e2:aG s (ab++[l])=aG s ab:=by unfold aG;rw[e1]
 refine⟨⟨h.sig,fun x hx=>?_,by rw[e1];exact h.n24,by rw[e2];exact h.n4⟩,e1,e2⟩;rw[e2];rcases aO.1 hx with hx|hx;exact h.fit x hx;simp only[az,bf,or_false] at hx;rw[hx];exact hf
omit h in
theorem RL{a b:ax}:cY (jf a b).aN=[a,b]:=rfl
omit h in
theorem MC{a b:ax}:∀t∈cY (fa a b).aN,t=a∨t=b:=by intro t ht;unfold fa at ht;split at ht;simp[cY] at ht;exact ht.symm;simp[cY] at ht;exact ht
theorem jK.eq{a b:ax}(ha:a∈aG s ab)(hb:b∈aG s ab):jK s (ab++[jf a b])∧aL (ab++[jf a b])=aL ab∧aG s (ab++[jf a b])=aG s ab:=by refine h.more (K6 ha hb (h.num a ha) (h.num b hb)) fun t ht=>?_;rw[RL] at ht;simp only[az,bf,or_false] at ht;rcases ht with rfl|rfl;exact rr _ ha;exact rr _ hb
theorem jK.less{a b:ax}(ha:a∈aG s ab)(hb:b∈aG s ab)(lj:a≠b):jK s (ab++[fa a b])∧aL (ab++[fa a b])=aL ab∧aG s (ab++[fa a b])=aG s ab:=by refine h.more (AX ha hb (h.num a ha) (h.num b hb) lj) fun t ht=>?_;rcases MC t ht with rfl|rfl;exact rr _ ha;exact rr _ hb
end
def l6(ai:List ax)(c:List Nat)(e:hY):List Nat:=if b8 ai e.A<0 then c else iw c (aM ai e.A) (aM ai e.B)
def UE(ai:List ax)(bB:List hY):List Nat:=bB.foldl (l6 ai) (bK ai.length)
theorem Q9{ai:List ax}{c d:List Nat}{e:hY}(hab:e.A∈ai↔e.B∈ai)(hc:c.length=ai.length)(hd:d.length=ai.length)(hr:∀i k,i<ai.length→k<ai.length→(cl c i=cl c k↔cl d i=cl d k)) :
 ∀i k,i<ai.length→k<ai.length→(cl (fY ai c e) i=cl (fY ai c e) k↔cl (l6 ai d e) i=cl (l6 ai d e) k):=by
 intro i k hi hk
 unfold fY l6
 rcases aa (e.A∈ai) with hA|hA
 ·have hB:=hab.1 hA
  have a0:=dE.2 hA
  have b0:=dE.2 hB
  have pa:=bT hA
  have pb:=bT hB
  rw[if_neg oM,if_neg oM,yy oM,yy oM,G9 oM oM,←hr i k hi hk,←hr i _ hi pa,←hr k _ hk pb,←hr i _ hi pb,←hr k _ hk pa]
  split<;>split<;>omega
 ·have a0:b8 ai e.A<0:=by
   have:=(not_congr dE).2 hA
   omega
  rw[if_pos (.inl a0),if_pos a0]
  exact hr i k hi hk
theorem Oz{ai:List ax}:∀{bB:List hY}{c d:List Nat},(∀e∈bB,(e.A∈ai↔e.B∈ai))→c.length=ai.length→d.length=ai.length→(∀i k,i<ai.length→k<ai.length→(cl c i=cl c k↔cl d i=cl d k)) →
 ∀i k,i<ai.length→k<ai.length→(cl (bB.foldl (fY ai) c) i=cl (bB.foldl (fY ai) c) k↔cl (bB.foldl (l6 ai) d) i=cl (bB.foldl (l6 ai) d) k)
 | [],c,d,_,_,_,hr=>hr
 | e::bB,c,d,he,hc,hd,hr=>by simp only[List.foldl_cons];refine Oz (fun x hx=>he x (bw _ hx)) (by rw[zc,hc]) ?_ (Q9 (he e (by simp)) hc hd hr);unfold l6;split;exact hd;rw[hU,hd]
theorem Uh{ai:List ax}{ab:List bL}{i k:Nat}(he:∀e∈br ab,(e.A∈ai↔e.B∈ai))(hi:i<ai.length)(hk:k<ai.length):decide (cl (UE ai (br ab)) i=cl (UE ai (br ab)) k)=gp ai ab i k:=by have:=Oz he (c:=bK ai.length) (d:=bK ai.length) (by simp) (by simp) (fun _ _ _ _=>Iff.rfl) i k hi hk;unfold gp;exact decide_eq_decide.2 this.symm
def og(i k n:Nat):List (Nat×Nat):=(fk k (n-k)).map (fun k=>(i,k))++ff (i+1) n
theorem p8{i n:Nat}(h:i<n):ff i n=og i (i+1) n:=IA h
theorem q9{i k n:Nat}(h:k<n):og i k n=(i,k)::og i (k+1) n:=by unfold og;rw[qz h];rfl
theorem sE{i k n:Nat}(h:n≤k):og i k n=ff (i+1) n:=by unfold og;rw[rX h];rfl
def yx{α:Type}(p:α→Bool)(l:List α)(i:Nat):Option Nat:=(fk i (l.length-i)).find? fun i=>match l[i]? with|none=>false|some x=>p x
theorem K3{α:Type}(p:α→Bool)(l:List α):nE p l=yx p l 0:=by unfold nE yx;rw[List.range_eq_range',Nat.sub_zero];rfl
theorem HN{α:Type}{p:α→Bool}{l:List α}{i:Nat}(h:i<l.length):yx p l i=if p l[i] then some i else yx p l (i+1):=by unfold yx;rw[qz h,List.find?_cons,af h];cases hp:p l[i]<;>simp[hp]
theorem Mc{α:Type}{p:α→Bool}{l:List α}{i:Nat}(h:l.length≤i):yx p l i=none:=by unfold yx;rw[rX h];rfl
theorem Fl{α:Type}{p:α→Bool}{l:List α}{n:Nat}(h:nE p l=some n):∃hn:n<l.length,p l[n]=true:=by have h1:=List.find?_some h;have h2:=gz.1 (List.mem_of_find?_eq_some h);refine⟨h2,?_⟩;rw[af h2] at h1;exact h1
def atI:Option Nat→Int
 | none=>-1
 | some n=>n
def lf(ab:List bL)(l:bL):Bool:=ab.any fun x=>(x.no == l.no)&&decide (x.aN=l.aN)
theorem HJ{ai:List ax}{ab:List bL}{i k:Nat}:lf ab (fa (ai.getD i aQ) (ai.getD k aQ))=fW ai ab i k:=by unfold lf fW;rw[Kd];congr 1;funext x;cases x.no<;>rfl
def Ov(ab:List bL)(l:bL)(i:Nat):Bool:=(ab.drop i).any fun x=>(x.no == l.no)&&decide (x.aN=l.aN)
theorem U8{ab:List bL}{l:bL}{i:Nat}(h:i<ab.length):Ov ab l i=((ab[i].no == l.no)&&decide (ab[i].aN=l.aN)||Ov ab l (i+1)):=by unfold Ov;rw[ae h,List.any_cons]
theorem Yq{ab:List bL}{l:bL}{i:Nat}(h:ab.length≤i):Ov ab l i=false:=by unfold Ov;rw[ak h];rfl
def fU(have_:Bool)(ay ai:List ax)(c:List Nat)(ab:List bL)(i k:Nat):Bool:=!gp ai ab i k&&(if have_ then ix ay c (ai.getD i aQ) (ai.getD k aQ) else(!fW ai ab i k&& !fW ai ab k i))
def uc(ay ai:List ax)(bB:List hY)(c:List Nat):List D:=[.eC (aU ay),.eC (aU ai),.eC (dF bB),.eC (db c)]
attribute [go_sem] uc
theorem Lk{α:Type}{p q:α→Bool}:∀{l:List α},(∀x∈l,p x=q x)→l.takeWhile p=l.takeWhile q∧l.dropWhile p=l.dropWhile q
 | [],_=>⟨rfl,rfl⟩
 | x::l,h=>by obtain⟨h1,h2⟩:=Lk (l:=l) fun y hy=>h y (bw _ hy);rw[pJ,pJ,pK,pK,h x (by simp),h1,h2];exact⟨rfl,rfl⟩
def qc(aw:List Row)(r:Row):List Row:=
 match aw.dropWhile fun x=>eS x r with
 | []=>aw.takeWhile (fun x=>eS x r)++[r]
 | x::xs=>if x.name=r.name∧x.args=r.args then aw else aw.takeWhile (fun x=>eS x r)++r::x::xs
theorem Ke{aw:List Row}{r:Row}(hr:fg r.args=true)(hrs:∀x∈aw,fg x.args=true):putRow aw r=qc aw r:=by
 have e:∀x∈aw,decide (gx x r<0)=eS x r:=fun x hx=>by
  have h:=nF (hrs x hx) hr;cases hl:eS x r;exact decide_eq_false fun h1=>by rw[h.1 h1] at hl;cases hl
  exact decide_eq_true (h.2 hl)
 obtain⟨e1,e2⟩:=Lk e;have o4:∀x∈aw.dropWhile (fun x=>eS x r),x∈aw:=fun x hx=>(List.dropWhile_sublist _).subset hx;unfold putRow qc;simp only[e1,e2];cases hd:aw.dropWhile (fun x=>eS x r) with
 | nil=>rfl
 | cons x xs=>rw[hd] at o4;have h:=s9 (hrs x (o4 x (by simp))) hr;simp only;rcases aa (gx x r=0) with hc|hc;rw[if_pos hc,if_pos (h.1 hc)];rw[if_neg hc,if_neg fun h1=>hc (h.2 h1)]
theorem Lb{aw:List Row}{r x:Row}(h:x∈putRow aw r):x∈aw∨x=r:=by unfold putRow at h;have hs1:∀x∈aw.takeWhile (fun x=>decide (gx x r<0)),x∈aw:=fun x hx=>(List.takeWhile_sublist _).subset hx;have hs2:∀x∈aw.dropWhile (fun x=>decide (gx x r<0)),x∈aw:=fun x hx=>(List.dropWhile_sublist _).subset hx;simp only at h;split at h;rcases aO.1 h with h|h;exact .inl (hs1 _ h);exact .inr (by simpa using h);rename_i y ys hd;rw[hd] at hs2;split at h;exact .inl h;rcases aO.1 h with h|h;exact .inl (hs1 _ h);rcases az.1 h with h|h;exact .inr h;exact .inl (hs2 _ h)
theorem J2(aw:List Row)(r:Row):(putRow aw r).length≤aw.length+1:=by unfold putRow;have h:=congrArg List.length (List.takeWhile_append_dropWhile (p:=fun x=>decide (gx x r<0)) (l:=aw));rw[List.length_append] at h;simp only;split;rename_i hd;rw[hd] at h;simp at h⊢;omega;rename_i y ys hd;rw[hd] at h;split;omega;simp at h⊢;omega
def vu(p:Row→Bool)(aw:List Row)(i:Nat):Prop:=aw.takeWhile p=aw.take i++(aw.drop i).takeWhile p∧aw.dropWhile p=(aw.drop i).dropWhile p
theorem vu.zero(p:Row→Bool)(aw:List Row):vu p aw 0:=⟨by simp,by simp⟩
theorem vu.step{p:Row→Bool}{aw:List Row}{i:Nat}(h:vu p aw i)(hi:i<aw.length)(hp:p aw[i]=true):vu p aw (i+1):=by obtain⟨h1,h2⟩:=h;rw[ae hi] at h1 h2;rw[pJ,if_pos hp] at h1;rw[pK,if_pos hp] at h2;refine⟨?_,h2⟩;rw[h1,List.take_add_one,af hi,List.append_assoc];rfl
theorem vu.stop{p:Row→Bool}{aw:List Row}{i:Nat}(h:vu p aw i)(hi:i<aw.length)(hp:p aw[i]=false):aw.takeWhile p=aw.take i∧aw.dropWhile p=aw[i]::aw.drop (i+1):=by obtain⟨h1,h2⟩:=h;rw[ae hi] at h1 h2;rw[pJ,if_neg (by rw[hp];simp),List.append_nil] at h1;rw[pK,if_neg (by rw[hp];simp)] at h2;exact⟨h1,h2⟩
theorem vu.done{p:Row→Bool}{aw:List Row}{i:Nat}(h:vu p aw i)(hi:aw.length≤i):aw.takeWhile p=aw∧aw.dropWhile p=[]:=by obtain⟨h1,h2⟩:=h;rw[ak hi] at h1 h2;rw[List.take_of_length_le hi] at h1;exact⟨by simpa using h1,h2⟩
theorem ZV{ay ai:List ax}{c:List Nat}{aF:List Rat}{t:ax}(hc:∀x∈c,x≤1000)(hv:∀x∈aF,cP x=true):cP (kG ay ai c aF t)=true:=by
 have hle:cl c (aM ay t)≤1000:=by rcases cz (aM ay t) c.length with h1|h1;exact hc _ (DU h1);rw[aeH h1];omega
 unfold kG;split;exact s7 oM oM;rcases cz (aM ai t) aF.length with h1|h1;exact hv _ (oO h1);rw[List.getD_eq_getElem?_getD,bM h1];exact s7 oM oM
theorem vS{ay ai:List ax}{c:List Nat}{aF:List Rat}{t:ax}(hc:∀x∈c,x≤1000)(hv:∀x∈aF,cP x=true):fg (j9 ay ai c aF t).args=true:=by unfold fg;refine cV.2 fun x hx=>?_;simp only[j9,bN] at hx;obtain⟨k,_,rfl⟩:=hx;exact ZV hc hv
theorem D4{aS:List j8}(h:(cE aS).code=0):(cE aS).aF.length=4∧∀x∈(cE aS).aF,cP x=true:=by
 have nq:∀v,na aS v=true→v.length=4∧∀x∈v,cP x=true:=fun v hv=>by simp only[na,tz,ah,decide_eq_true_eq,cV] at hv;exact hv.2.1
 have hend:∀s0 s1 s2 s3 aw,(jS aS s0 s1 s2 s3 aw).code=0→(jS aS s0 s1 s2 s3 aw).aF.length=4∧∀x∈(jS aS s0 s1 s2 s3 aw).aF,cP x=true:=fun s0 s1 s2 s3 aw h=>by unfold jS at h⊢;split at h;split at h<;>simp at h;split at h;simp at h;split at h;rename_i hf;rw[if_pos hf];exact nq _ hf;simp at h
 unfold cE at h⊢;split at h;rename_i hs;rw[if_pos hs];split at h;simp at h;split at h;simp at h;split at h;simp at h;split at h;simp at h;exact hend _ _ _ _ _ h;simp at h
theorem Sp{t:ax}(h:bG t=true):t.ar.length≤2:=by
 have h1:=jh h;cases t with
 | mk n ks=>simp only[cd,ah,decide_eq_true_eq] at h1;exact h1.2.1
theorem uf{a:cR}(h:dq a=true):a.a8.length≤4:=by rcases aa (a.kind=1) with h1|h1;simp only[dq,if_pos h1,ah,decide_eq_true_eq] at h;omega;rcases aa (a.kind=2) with h2|h2;have:=oX h h2;omega;simp[dq,h1,h2] at h
section
variable{s:eM}{ab:List bL}(h:jK s ab)
include h
theorem jK.R5:∀t∈aL ab,t.ar.length≤1000:=fun t ht=>by have:=Sp (h.term t ht);omega
theorem jK.Zs:(aL ab).length≤1000:=by have:=h.n24;omega
theorem jK.ER:∀e∈br ab,e.A∈aL ab∧e.B∈aL ab:=fun e he=>⟨(h.bB e he).1,(h.bB e he).2.1⟩
theorem jK.aba:∀e∈br ab,(e.A∈aG s ab↔e.B∈aG s ab):=fun e he=>(h.bB e he).2.2
theorem jK.TJ:(closed (aL ab) (br ab)).1.length=(aL ab).length:=Ss (oL h.ER)
theorem jK.PD:∀x∈(closed (aL ab) (br ab)).1,x≤1000:=by
 have hk:=oL h.ER;have h1:=yU hk _ (Nat.le_refl _);rw[←hk.2] at h1;intro x hx;have h2:=aap hx;have h3:(bK (aL ab).length).sum≤(bK (aL ab).length).length*23:=rU fun x hx=>by have:=gz.1 hx;have:=h.n24;omega
 have h4:(bK (aL ab).length).length*23≤24*23:=Nat.mul_le_mul_right _ (by simpa using h.n24);omega
theorem jK.Rl:∀l∈ab,l.aN.kind=1→l.aN.A∈aL ab∧l.aN.B∈aL ab:=fun l hl hk=>by
 have hm:cY l.aN=[l.aN.A,l.aN.B]:=by simp[cY,hk]
 exact⟨h.has l hl _ (by rw[hm];simp),h.has l hl _ (by rw[hm];simp)⟩
end
theorem KV(s:eM)(ab:List bL):(aL ab).filter (eQ s)=aG s ab:=rfl
theorem zj{ay ai:List ax}{c:List Nat}{ab:List bL}{i k:Nat}(h:fU false ay ai c ab i k=true):tO ai ab i k=true:=h
theorem uU{v:Bool}{ay ai:List ax}{c:List Nat}{ab:List bL}{i k:Nat}(h:fU v ay ai c ab i k=true):gp ai ab i k=false:=by unfold fU at h;cases hl:gp ai ab i k;rfl;rw[hl] at h;simp at h
def Next(s:eM)(ab:List bL)(l:bL):Prop:=jK s (ab++[l])∧aL (ab++[l])=aL ab∧aG s (ab++[l])=aG s ab∧room (aG s ab) (ab++[l])<room (aG s ab) ab
theorem Jr{s:eM}{ab:List bL}(h:jK s ab){i k:Nat}(h1:i<k)(h2:k<(aG s ab).length)(hl:gp (aG s ab) ab i k=false):Next s ab (jf ((aG s ab).getD i aQ) ((aG s ab).getD k aQ)):=by obtain⟨g1,g2,g3⟩:=h.eq (a:=(aG s ab).getD i aQ) (b:=(aG s ab).getD k aQ) (oO oM) (oO h2);exact⟨g1,g2,g3,adW h.wh h1 h2 hl⟩
theorem D3{s:eM}{ab:List bL}(h:jK s ab){i k:Nat}(h1:i<k)(h2:k<(aG s ab).length):(aG s ab).getD i aQ≠(aG s ab).getD k aQ:=fun e=>by have a1:=lK h.wh (by omega:i<(aG s ab).length);have a2:=lK h.wh h2;rw[gi oM,gi h2] at e;rw[e] at a1;omega
theorem XN{s:eM}{ab:List bL}(h:jK s ab){i k:Nat}(h1:i<k)(h2:k<(aG s ab).length)(hl:tO (aG s ab) ab i k=true):Next s ab (fa ((aG s ab).getD i aQ) ((aG s ab).getD k aQ))∧Next s ab (fa ((aG s ab).getD k aQ) ((aG s ab).getD i aQ)):=by have lj:=D3 h h1 h2;have hi:=oO (d:=aQ) (by omega:i<(aG s ab).length);have hk:=oO (d:=aQ) h2;obtain⟨g1,g2,g3⟩:=h.less hi hk lj;obtain⟨f1,f2,f3⟩:=h.less hk hi (Ne.symm lj);exact⟨⟨g1,g2,g3,NU h1 h2 hl (.inl rfl)⟩,⟨f1,f2,f3,NU h1 h2 hl (.inr rfl)⟩⟩
theorem AP{s:eM}{ab:List bL}(h:jK s ab){i k:Nat}(h1:i<k)(h2:k<(aG s ab).length)(hl:tO (aG s ab) ab i k=true):∀l∈gv ((aG s ab).getD i aQ) ((aG s ab).getD k aQ),Next s ab l:=by have hlk:gp (aG s ab) ab i k=false:=uU (v:=false) (ay:=[]) (c:=[]) hl;obtain⟨n1,n2⟩:=XN h h1 h2 hl;intro l hm;simp only[gv,az,bf,or_false] at hm;rcases hm with rfl|rfl|rfl;exact Jr h h1 h2 hlk;exact n1;exact n2
theorem yX{run:List bL→FY}{a b:ax}{l:List bL}{ls:List (List bL)}{out:List eJ}:yg run a b (l::ls) out=if(run l).code=1 then yg run a b ls (out++[(run l).case]) else⟨(run l).model,th,(run l).code⟩:=rfl
theorem BQ{run:List bL→FY}{a b:ax}{out:List eJ}:yg run a b [] out=⟨oo,.mk 4 0 wv [] a b out,1⟩:=rfl
theorem ab3(n:Nat):atI (some n)=n:=rfl
theorem abD:atI none = -1:=rfl
section
variable{s:eM}{ay ai:List ax}{f:Nat}{ab:List bL}
theorem EB(h:12<(br ab).length):mL s ay ai (f+1) ab=Ds:=by simp only[mL,if_pos h]
variable(h:¬12<(br ab).length)
include h
theorem BK{n:Nat}(hc:nE (lV ay (closed ay (br ab)).1) ab=some n):mL s ay ai (f+1) ab=⟨oo,.mk 1 n (oi ay (closed ay (br ab)).2 (ab.getD n Gq).aN.A (ab.getD n Gq).aN.B) [] aQ aQ [],1⟩:=by simp only[mL,if_neg h,hc]
variable(hc:nE (lV ay (closed ay (br ab)).1) ab=none)
include hc
theorem FE(hf:(cE (fN ai ab)).code=1):mL s ay ai (f+1) ab=⟨oo,.mk 2 0 wv (cE (fN ai ab)).a8 aQ aQ [],1⟩:=by simp only[mL,if_neg h,hc,if_pos hf]
theorem Fg(hf:(cE (fN ai ab)).code≠1)(hf2:(cE (fN ai ab)).code≠0):mL s ay ai (f+1) ab=Ds:=by simp only[mL,if_neg h,hc,if_neg hf,if_pos hf2]
variable(hf:(cE (fN ai ab)).code=0)
include hf
theorem Eb{q:Nat×Nat}(hp:dj ai.length (fU true ay ai (closed ay (br ab)).1 ab)=some q):mL s ay ai (f+1) ab=H0 (oi ay (closed ay (br ab)).2 (ai.getD q.1 aQ) (ai.getD q.2 aQ)) (mL s ay ai f (ab++[jf (ai.getD q.1 aQ) (ai.getD q.2 aQ)])):=by have hp':dj ai.length (fun i k=>!gp ai ab i k&&ix ay (closed ay (br ab)).1 (ai.getD i aQ) (ai.getD k aQ))=some q:=hp;have h1:¬ (cE (fN ai ab)).code=1:=oM;simp only[mL,if_neg h,hc,if_neg h1,hf,ne_eq,not_true_eq_false,if_false,hp'];rw[if_neg (by decide)]
variable(hp:dj ai.length (fU true ay ai (closed ay (br ab)).1 ab)=none)
include hp
theorem yh{q:Nat×Nat}(hq:dj ai.length (fU false ay ai (closed ay (br ab)).1 ab)=some q):mL s ay ai (f+1) ab=yg (mL s ay ai f) (ai.getD q.1 aQ) (ai.getD q.2 aQ) ((gv (ai.getD q.1 aQ) (ai.getD q.2 aQ)).map fun l=>ab++[l]) []:=by have hp':dj ai.length (fun i k=>!gp ai ab i k&&ix ay (closed ay (br ab)).1 (ai.getD i aQ) (ai.getD k aQ))=none:=hp;have hq':dj ai.length (fun i k=>!gp ai ab i k&&(!fW ai ab i k&& !fW ai ab k i))=some q:=hq;have h1:¬ (cE (fN ai ab)).code=1:=oM;simp only[mL,if_neg h,hc,if_neg h1,hf,ne_eq,not_true_eq_false,if_false,hp',hq'];rw[if_neg (by decide)]
variable(hq:dj ai.length (fU false ay ai (closed ay (br ab)).1 ab)=none)
include hq
theorem BI:mL s ay ai (f+1) ab=if jH s ⟨jT ay ai (closed ay (br ab)).1 (cE (fN ai ab)).aF⟩ ab=true then⟨⟨jT ay ai (closed ay (br ab)).1 (cE (fN ai ab)).aF⟩,th,0⟩ else Ds:=by have hp':dj ai.length (fun i k=>!gp ai ab i k&&ix ay (closed ay (br ab)).1 (ai.getD i aQ) (ai.getD k aQ))=none:=hp;have hq':dj ai.length (fun i k=>!gp ai ab i k&&(!fW ai ab i k&& !fW ai ab k i))=none:=hq;have h1:¬ (cE (fN ai ab)).code=1:=oM;simp only[mL,if_neg h,hc,if_neg h1,hf,ne_eq,not_true_eq_false,if_false,hp',hq'];rw[if_neg (by decide)]
end
def CC(e:Edge):List D:=[.val (.int .i64 (e.step:Int)),.val (.bool e.back)]
def eK(l:List Edge):List (List D):=l.map CC
theorem P1(l:List Edge):(eK l).length=l.length:=by simp[eK]
theorem yR{l:List Edge}{i:Nat}(h:i<l.length):row (eK l) i=CC l[i]:=by simp[eK,row,List.getD,af h]
theorem Rj(l:List Edge):∀y∈eK l,y.length=2:=by intro y hy;obtain⟨t,_,rfl⟩:=bN.1 hy;rfl
theorem uM(a b:List Edge):eK a++eK b=eK (a++b):=by simp[eK]
theorem qV:eK []=[]:=rfl
theorem sx(n:Edge)(l:List Edge):eK (n::l)=CC n::eK l:=rfl
theorem Qd{l:List Edge}{i:Nat}{e:Edge}:(eK l).set i (CC e)=eK (l.set i e):=by simp[eK,List.map_set]
attribute [go_sem] P1 yR qV CC
structure Q8{α:Type}(l ys:List α)(i:Nat):Prop where
 len:ys.length=l.length
 at_:∀k,k<l.length→ys[k]?=if k<i∨l.length-1-k<i then l[l.length-1-k]? else l[k]?
theorem Q8.zero{α:Type}(l:List α):Q8 l l 0:=⟨rfl,fun k _=>by simp⟩
theorem Q8.step{α:Type}{l ys:List α}{i j:Nat}(h:Q8 l ys i)(hij:i<j)(hj:i+j+1=l.length)(hi':i<ys.length)(hj':j<ys.length):Q8 l ((ys.set i ys[j]).set j ys[i]) (i+1):=by have eO:=h.len;refine⟨by simp[eO],fun k hk=>?_⟩;have e1:ys[j]?=some ys[j]:=af hj';have e2:ys[i]?=some ys[i]:=af hi';have a1:=h.at_ j oM;have a2:=h.at_ i oM;have a3:=h.at_ k hk;rw[if_neg oM] at a1 a2;rw[e1] at a1;rw[e2] at a2;rcases Nat.lt_trichotomy k j with h1|h1|h1;rw[mu oM];rcases aa (k=i) with h2|h2;subst h2;rw[List.getElem?_set_self hi',if_pos (.inl oM),a1];congr 1;omega;rw[mu oM,a3];rcases aa (k<i∨l.length-1-k<i) with h3|h3;rw[if_pos h3,if_pos oM];rw[if_neg h3,if_neg oM];subst h1;rw[List.getElem?_set_self (by simpa using hj'),if_pos (.inr oM),a2];congr 1;omega;rw[mu oM,mu oM,a3,if_pos oM,if_pos oM]
theorem Q8.done{α:Type}{l ys:List α}{i:Nat}(h:Q8 l ys i)(hi:l.length≤2*i+1):ys=l.reverse:=by apply List.ext_getElem?;intro k;rcases cz k l.length with h1|h1;rw[h.at_ k h1,List.getElem?_reverse h1];rcases aa (k<i∨l.length-1-k<i) with h2|h2;rw[if_pos h2];rw[if_neg h2];congr 1;omega;rw[bM (by rw[h.len];exact h1),bM (by simpa using h1)]
def DS(df:List (Nat×Edge)):List (Int×Value):=(kq df).map fun(v:Nat)=>((v:Int),Value.bool true)
def qN(df:List (Nat×Edge)):List (Int×Value):=(df.drop 1).map fun p=>((p.1:Int),Value.agg #[.int .i64 (p.2.step:Int),.bool p.2.back])
theorem FR(a b:List (Nat×Edge)):DS (a++b)=DS a++DS b:=by simp[DS,kq]
theorem wJ{a:List (Nat×Edge)}{p:Nat×Edge}(h:0<a.length):qN (a++[p])=qN a++[((p.1:Int),Value.agg #[.int .i64 (p.2.step:Int),.bool p.2.back])]:=by unfold qN;rw[List.drop_append_of_le_length oM,List.map_append];rfl
theorem N2:∀{l:List Nat}{n:Nat},n∈l→mz (l.map fun(v:Nat)=>((v:Int),Value.bool true)) (n:Int)=some (.bool true)
 | v::l,n,h=>by simp only[aV,mz];rcases aa ((n:Int)=(v:Int)) with h1|h1;rw[if_pos h1];rw[if_neg h1];rcases az.1 h with h|h;exact absurd (by rw[h]) h1;exact N2 h
theorem JP:∀{l:List Nat}{n:Nat},n∉l→mz (l.map fun(v:Nat)=>((v:Int),Value.bool true)) (n:Int)=none
 | [],_,_=>rfl
 | v::l,n,h=>by simp only[aV,mz];rw[if_neg (fun e=>h (by simp[show n=v by omega]))];exact JP fun h1=>h (bw _ h1)
theorem Dz{df:List (Nat×Edge)}{n:Nat}(h:n∈kq df):mz (DS df) (n:Int)=some (.bool true):=N2 h
theorem uz{df:List (Nat×Edge)}{n:Nat}(h:n∉kq df):mz (DS df) (n:Int)=none:=JP h
theorem Fq:∀{l:List (Nat×Edge)}{j:Nat}{v:Nat}{e:Edge},(l.map Prod.fst).Nodup→l[j]?=some (v,e)→mz (l.map fun p=>((p.1:Int),Value.agg #[.int .i64 (p.2.step:Int),.bool p.2.back])) (v:Int)=some (.agg #[.int .i64 (e.step:Int),.bool e.back])
 | [],j,v,e,_,h=>by simp at h
 | p::l,0,v,e,_,h=>by simp only[List.getElem?_cons_zero,Option.some.injEq] at h;subst h;simp[mz]
 | p::l,j+1,v,e,hn,h=>by simp only[List.getElem?_cons_succ] at h;simp only[aV,da] at hn;have hm:v∈l.map Prod.fst:=bN.2 ⟨(v,e),List.mem_of_getElem? h,rfl⟩;simp only[aV,mz];rw[if_neg (fun e1=>hn.1 (by rw[show p.1=v by omega];exact hm))];exact Fq hn.2 h
theorem Nj{df:List (Nat×Edge)}(hn:(kq df).Nodup){j v:Nat}{e:Edge}(hj:0<j)(h:df[j]?=some (v,e)):mz (qN df) (v:Int)=some (.agg #[.int .i64 (e.step:Int),.bool e.back]):=by refine Fq (j:=j-1) ?_ ?_;rw[List.map_drop];exact hn.sublist (List.drop_sublist _ _);rw[List.getElem?_drop,show 1+(j-1)=j by omega];exact h
theorem wc{df:List (Nat×Edge)}{n:Nat}(h:n∉kq df):mz (qN df) (n:Int)=none:=by
 have key:∀{l:List (Nat×Edge)},(∀p∈l,p.1≠n)→mz (l.map fun p=>((p.1:Int),Value.agg #[.int .i64 (p.2.step:Int),.bool p.2.back])) (n:Int)=none:=by
  intro l;induction l with
  | nil=>intro _;rfl
  | cons p l ih=>intro hl;simp only[aV,mz];rw[if_neg (fun e=>hl p (by simp) oM)];exact ih fun q hq=>hl q (bw _ hq)
 refine key fun p hp e=>h ?_;rw[←e];exact bN.2 ⟨p,gg hp,rfl⟩
def DX(ao:List Step)(k:Nat)(df:List (Nat×Edge))(v:Nat):Prop:=∀j,j<k→(vA ao j=v→vB ao j∈kq df)∧(vB ao j=v→vA ao j∈kq df)
theorem SP(ao:List Step)(df:List (Nat×Edge))(v:Nat):DX ao 0 df v:=fun j hj=>by omega
theorem V2{ao:List Step}{n:Nat}{df:List (Nat×Edge)}{v:Nat}(h:DX ao n df v):Seen ao n df v:=h
theorem qC{ao:List Step}{k:Nat}{df:List (Nat×Edge)}{v:Nat}(h:DX ao k df v)(h1:vA ao k=v→vB ao k∈kq df)(h2:vB ao k=v→vA ao k∈kq df):DX ao (k+1) df v:=fun j hj=>by rcases cz j k with h3|h3;exact h j h3;obtain rfl:j=k:=oM;exact⟨h1,h2⟩
theorem HQ{ao:List Step}{k:Nat}{a b:List (Nat×Edge)}{v:Nat}(h:DX ao k a v):DX ao k (a++b) v:=OC (n:=k) h
theorem Ox:∀(rs:List Row)(t:Row),rs.takeWhile (fun x=>decide (gx x t<0))=rs.take (cut rs t)∧rs.dropWhile (fun x=>decide (gx x t<0))=rs.drop (cut rs t)
 | [],_=>by simp[cut]
 | r::rs,t=>by obtain⟨h1,h2⟩:=Ox rs t;rcases aa (gx r t<0) with h|h;simp[cut,h,h1,h2];simp[cut,h]
theorem ve(rs:List Row)(t:Row):putRow rs t=if found rs t then rs else rs.take (cut rs t)++t::rs.drop (cut rs t):=by obtain⟨h1,h2⟩:=Ox rs t;unfold putRow found;simp only[h1,h2];rcases cz (cut rs t) rs.length with h|h;rw[ae h,af h];rcases aa (gx rs[cut rs t] t=0) with hc|hc;simp[hc];simp[hc];rw[ak h,bM h];simp
theorem Cl{a b:Rat}(ha:cP a=true)(hb:cP b=true)(h:a≠b):eF a b=true∨eF b a=true:=by rw[gP ha hb,gP hb ha];have h1:a.N*b.D≠b.N*a.D:=fun e=>h (Gn ha hb e);omega
theorem AS:∀{as bs:List Rat},fg as=true→fg bs=true→as.length=bs.length→as≠bs→iu as bs=true∨iu bs as=true
 | [],[],_,_,_,h=>absurd rfl h
 | [],b::bs,_,_,h,_=>by simp at h
 | a::as,[],_,_,h,_=>by simp at h
 | a::as,b::bs,h1,h2,h3,h4=>by simp only[fg,List.all_cons,ah] at h1 h2;simp only[iu];rcases aa (a=b) with h|h;rw[if_pos h,if_pos h.symm];exact AS h1.2 h2.2 (by simpa using h3) fun e=>h4 (by rw[h,e]);rw[if_neg h,if_neg (Ne.symm h)];exact Cl h1.1 h2.1 h
theorem RP{a b:pL}(h:a≠b):iQ a b=true∨iQ b a=true:=by cases h1:iQ a b;cases h2:iQ b a;exact absurd (s8.1 (by simp[qe,h1,h2])) h;exact .inr rfl;exact .inl rfl
theorem NH{a b:Row}(ha:fg a.args=true)(hb:fg b.args=true)(h:¬ (a.name=b.name∧a.args=b.args)):eS a b=true∨eS b a=true:=by unfold eS;rcases aa (a.name=b.name) with h1|h1;rw[if_pos h1,if_pos h1.symm];rcases aa (a.args.length=b.args.length) with h2|h2;rw[if_pos h2,if_pos h2.symm];exact AS ha hb h2 fun e=>h ⟨h1,e⟩;rw[if_neg h2,if_neg (Ne.symm h2)];rcases cz a.args.length b.args.length with h3|h3;exact .inl (decide_eq_true h3);exact .inr (decide_eq_true oM);rw[if_neg h1,if_neg (Ne.symm h1)];exact RP h1
theorem Oo{rs:List Row}{t:Row}(h1:∀r∈rs,fg r.args=true)(h2:rs.Pairwise (fun a b=>eS a b=true))(ht:fg t.args=true):nH rs t:=by refine List.Pairwise.imp_of_mem ?_ h2;intro a b ha hb hab hbt;have wa:=h1 a ha;have wb:=h1 b hb;rw[nF wb ht] at hbt;rw[nF wa ht];exact sZ wa wb ht hab hbt
theorem RV{rs:List Row}{t:Row}(h1:∀r∈rs,fg r.args=true)(h2:rs.Pairwise (fun a b=>eS a b=true))(ht:fg t.args=true):(putRow rs t).Pairwise (fun a b=>eS a b=true):=by
 have hm:=Oo h1 h2 ht;have hc:=fun k h=>wU hm k h;rw[ve];cases hf:found rs t;rw[if_neg (by simp)];have hsplit:=h2;rw[←List.take_append_drop (cut rs t) rs] at hsplit;obtain⟨p1,p2,p3⟩:=List.pairwise_append.1 hsplit;have hlo:∀x∈rs.take (cut rs t),eS x t=true:=fun x hx=>by obtain⟨k,hk,rfl⟩:=List.mem_iff_getElem.1 hx;have hk2:k<cut rs t:=(by rw[bl] at hk;omega);have hk3:k<rs.length:=(by rw[bl] at hk;omega);rw[List.getElem_take];exact(nF (h1 _ (aj hk3)) ht).1 ((hc k hk3).1 hk2)
 have hhi:∀y∈rs.drop (cut rs t),eS t y=true:=fun y hy=>by
  rcases cz (cut rs t) rs.length with h|h;have w0:=h1 _ (aj h);have n1:¬gx rs[cut rs t] t<0:=fun e=>by have:=(hc _ h).2 e;omega
  have n2:gx rs[cut rs t] t≠0:=fun e=>by rw[found,af h] at hf;simp[e] at hf
  have h0:eS t rs[cut rs t]=true:=by rcases NH w0 ht (fun e=>n2 ((s9 w0 ht).2 e)) with h3|h3;exact absurd ((nF w0 ht).2 h3) n1;exact h3
  rw[ae h] at hy p2;rcases az.1 hy with rfl|hy2;exact h0;exact sZ ht w0 (h1 _ (gg hy2)) h0 ((lP.1 p2).1 y hy2);rw[ak h] at hy;simp at hy
 refine List.pairwise_append.2 ⟨p1,lP.2 ⟨hhi,p2⟩,fun x hx y hy=>?_⟩;rcases az.1 hy with rfl|hy;exact hlo x hx;exact p3 x hx y hy;rw[if_pos rfl];exact h2
def ahD(s:eM)(ab:List bL):List hY:=if gn s ab then br ab else []
def aha(s:eM)(ab:List bL):List j8:=if gn s ab then fN (aG s ab) ab else []
def agG(s:eM)(ab:List bL):List ax:=if gn s ab then aG s ab else []
theorem Ls{α:Type}[DecidableEq α]:∀{l m:List α},l.Nodup→(∀x∈l,x∈m)→l.length≤m.length
 | [],_,_,_=>Nat.zero_le _
 | x::l,m,hn,hs=>by have hx:x∈m:=hs x (by simp);obtain⟨h1,h2⟩:=da.1 hn;have h3:=Ls (l:=l) (m:=m.erase x) h2 fun y hy=>(List.mem_erase_of_ne (show y≠x from fun e=>h1 (by rw[←e];exact hy))).2 (hs y (by simp[hy]));have h4:=List.length_erase_of_mem hx;have h5:=List.length_pos_of_mem hx;simp only[List.length_cons];omega
mutual
theorem L9:∀(t:ax)(l p:List ax),jv p→t∈p→(∀u∈l,u∈p)→∀u∈dY l t,u∈p
 | .mk n ks,l,p,hp,ht,hl,u,hu=>by have h1:=tM ks l p hp (fun k hk=>hp _ ht k hk) hl;rw[dY] at hu;split at hu;simp only[aO,az,bf,or_false] at hu;rcases hu with hu|rfl;exact h1 u hu;exact ht;exact h1 u hu
theorem tM:∀(ts l p:List ax),jv p→(∀t∈ts,t∈p)→(∀u∈l,u∈p)→∀u∈bp l ts,u∈p
 | [],l,p,_,_,hl,u,hu=>hl u (by simpa[bp] using hu)
 | t::ts,l,p,hp,ht,hl,u,hu=>by rw[bp] at hu;exact tM ts _ p hp (fun x hx=>ht x (by simp[hx])) (L9 t l p hp (ht t (by simp)) hl) u hu
end
theorem TM{ts p:List ax}(h:∀t∈ts,bG t=true)(hp:jv p)(hs:∀t∈ts,t∈p):(kL ts).length≤p.length:=by rw[mC h];exact Ls (o7 ts [] (by simp)) (tM ts [] p hp hs (by simp))
theorem O3{bB:List hY}{t:ax}:t∈s6 bB↔∃e∈bB,t=e.A∨t=e.B:=by simp[s6]
theorem Ha{ab:List bL}{e:hY}:e∈br ab↔∃l∈ab,l.aN.kind=1∧l.no=false∧e=⟨l.aN.A,l.aN.B⟩:=by simp only[br,List.mem_filterMap];constructor;rintro⟨l,hl,h⟩;split at h;rename_i hk;exact⟨l,hl,hk.1,hk.2,(Option.some.inj h).symm⟩;cases h;rintro⟨l,hl,h1,h2,h3⟩;exact⟨l,hl,by rw[if_pos ⟨h1,h2⟩,h3]⟩
section
variable{s:eM}{ab:List bL}(h:gn s ab=true)
include h
theorem Sb:∀l∈ab,gr s l.aN=true:=by simp only[gn,ah,decide_eq_true_eq,cV] at h;exact h.1.1.2
end
theorem L4{c:List Nat}{a b i k:Nat}(hi:i<c.length)(hk:k<c.length)(h:cl c i=cl c k):cl (iw c a b) i=cl (iw c a b) k:=by rw[Bm hi,Bm hk,h]
theorem uw{al:List ax}:∀(bB:List hY)(n:Nat)(c:List Nat)(ao:List Step){i k:Nat},i<c.length→k<c.length→cl c i=cl c k→(kM al n bB c ao).1.length=c.length∧cl (kM al n bB c ao).1 i=cl (kM al n bB c ao).1 k
 | [],_,_,_,_,_,_,_,h=>⟨rfl,h⟩
 | e::es,n,c,ao,i,k,hi,hk,h=>by rw[kM];split;exact uw es (n+1) c ao hi hk h;have:=uw (al:=al) es (n+1) (iw c (aM al e.A) (aM al e.B)) (ao++[⟨aM al e.A,aM al e.B,n⟩]) (i:=i) (k:=k) (by rw[hU];exact hi) (by rw[hU];exact hk) (L4 hi hk h);rw[hU] at this;exact this
theorem Yl{c:List Nat}{a b:Nat}(ha:a<c.length)(hb:b<c.length):cl (iw c a b) a=cl (iw c a b) b:=(G9 ha hb).2 (.inr (.inl ⟨rfl,rfl⟩))
theorem Af{al:List ax}:∀(bB:List hY)(n:Nat)(c:List Nat)(ao:List Step),c.length=al.length→(∀e∈bB,e.A∈al∧e.B∈al)→∀e∈bB,cl (kM al n bB c ao).1 (aM al e.A)=cl (kM al n bB c ao).1 (aM al e.B)
 | [],_,_,_,_,_,e,he=>by simp at he
 | x::es,n,c,ao,hc,kI,e,he=>by have hx:=kI x (by simp);have pA:aM al x.A<c.length:=(by rw[hc];exact bT hx.1);have pB:aM al x.B<c.length:=(by rw[hc];exact bT hx.2);rw[kM];split;rename_i hs;rcases az.1 he with rfl|he;exact(uw es (n+1) c ao pA pB hs).2;exact Af es (n+1) c ao hc (fun y hy=>kI y (by simp[hy])) e he;rcases az.1 he with rfl|he;exact(uw es (n+1) _ _ (by rw[hU];exact pA) (by rw[hU];exact pB) (Yl pA pB)).2;exact Af es (n+1) _ _ (by rw[hU];exact hc) (fun y hy=>kI y (by simp[hy])) e he
theorem wD{al:List ax}:∀(bB:List hY)(n:Nat)(c:List Nat)(ao:List Step),(kM al n bB c ao).1.length=c.length
 | [],_,_,_=>rfl
 | e::es,n,c,ao=>by rw[kM];split;exact wD es (n+1) c ao;rw[wD es (n+1),hU]
theorem Fp{al:List ax}:∀(f:Nat)(c:List Nat)(ao:List Step){i k:Nat},i<c.length→k<c.length→cl c i=cl c k→cl (l7 al f c ao).1 i=cl (l7 al f c ao).1 k
 | 0,_,_,_,_,_,_,h=>h
 | f+1,c,ao,i,k,hi,hk,h=>by rw[l7];split;exact h;exact Fp f _ _ (by rw[hU];exact hi) (by rw[hU];exact hk) (L4 hi hk h)
theorem Vi{al:List ax}{bB:List hY}(kI:∀e∈bB,e.A∈al∧e.B∈al){e:hY}(he:e∈bB):ix al (closed al bB).1 e.A e.B=true:=by
 have hl:(given al bB).1.length=al.length:=by rw[given,wD,ij]
 have h1:=kI e he;refine decide_eq_true (Fp _ _ _ (by rw[hl];exact bT h1.1) (by rw[hl];exact bT h1.2) ?_);exact Af bB 0 _ _ ij kI e he
end Go.Mod
