/-
  Plain laws on literals that are decided: their terms and numbers stay the same where more is told of these. No program is walked here.
-/
import Derived.Test.YtabembjmeobhoaaGreatKCEk
import Derived.Test.YtabembjmeobhoaaGreatKCEb
set_option linter.unusedVariables false
set_option linter.unusedSimpArgs false
open Bool renaming and_eq_true→ai
open Classical renaming em→aa
open List renaming getElem?_eq_getElem→af,drop_eq_getElem_cons→ah,getElem_mem→ak,drop_of_length_le→al,mem_cons→ax,mem_append→aP,map_cons→aQ,not_mem_nil→ba,mem_cons_of_mem→bh,getElem?_eq_none→bo,range→bu,mem_map→bF,length_take→bT,all_eq_true→cg,nodup_cons→cJ,mem_append_left→dy,range'→dV,mem_range→fq,mem_of_mem_drop→fM,length_range→fX,getElem?_set_ne→kD,takeWhile_cons→nC,dropWhile_cons→nD,pairwise_cons→n8,getElem?_set_self→o5
open Nat renaming lt_or_ge→bV
namespace Go.Mod
open Go.Eng
set_option maxRecDepth 100000
theorem VC{l:List Term}{t:Term}(h:gU l)(ht:∀k∈t.kids,k∈l):gU (l++[t]):=by
 intro u hu k hk
 rcases aP.1 hu with hu|hu
 ·exact dy _ (h u hu k hk)
 ·simp only[ax,ba,or_false] at hu
  subst hu
  exact dy _ (ht k hk)
mutual
theorem Da:∀(t:Term)(l:List Term),gU l→gU (dh l t)
 | .mk n ks,l,h=>by
   have h1:=oB ks l h
   rw[dh]
   split
   ·exact VC h1 (sq ks l)
   ·exact h1
theorem oB:∀(ts:List Term)(l:List Term),gU l→gU (a6 l ts)
 | [],l,h=>by rw[a6];exact h
 | t::ts,l,h=>by
   rw[a6]
   exact oB ts _ (Da t l h)
end
mutual
theorem EE:∀(t:Term)(l:List Term),l.Nodup→(dh l t).Nodup
 | .mk n ks,l,h=>by
   have h1:=lh ks l h
   rw[dh]
   split
   ·rename_i lQ
    refine List.nodup_append.2 ⟨h1,by simp,fun x hx y hy e=>?_⟩
    simp only[ax,ba,or_false] at hy
    rw[e,hy] at hx
    have:=cR.2 hx
    omega
   ·exact h1
theorem lh:∀(ts:List Term)(l:List Term),l.Nodup→(a6 l ts).Nodup
 | [],l,h=>by rw[a6];exact h
 | t::ts,l,h=>by
   rw[a6]
   exact lh ts _ (EE t l h)
end
mutual
theorem KN:∀(t:Term)(l:List Term),gU l→t∈l→dh l t=l
 | .mk n ks,l,h,ht=>by
   have h1:=tV ks l h fun k hk=>h _ ht k hk
   rw[dh,h1]
   rw[if_neg (by have:=cR.2 ht;omega)]
theorem tV:∀(ts:List Term)(l:List Term),gU l→(∀t∈ts,t∈l)→a6 l ts=l
 | [],l,_,_=>by rw[a6]
 | t::ts,l,h,ht=>by
   rw[a6,KN t l h (ht t (by simp))]
   exact tV ts l h fun u hu=>ht u (bh _ hu)
end
theorem Hp(l:List Term)(xs ys:List Term):a6 l (xs++ys)=a6 (a6 l xs) ys:=by
 rw[gq,gq,gq,List.foldl_append]
theorem BV(a b:List bl):dZ (a++b)=dZ a++dZ b:=by simp[dZ]
theorem nd{ab:List bl}{t:Term}:t∈dZ ab↔∃l∈ab,t∈cd l.atom:=by simp[dZ]
structure iq(s:dI)(ab:List bl):Prop where
 sig:fO s=true
 fit:∀l∈ab,Fit (numsOf s ab) l
 n24:(az ab).length≤24
 n4:(numsOf s ab).length≤4
section
variable{s:dI}{ab:List bl}
theorem BZ(h:e6 s ab=true):iq s ab:=by
 obtain⟨h1,h2,h3,h4,h5,h6,h7,h8⟩:=rN h
 exact⟨h5,h1,h8,h3⟩
variable(h:iq s ab)
include h
theorem iq.wf:∀l∈ab,cP l.atom=true:=fun l hl=>(h.fit l hl).wf
theorem iq.all:∀t∈dZ ab,isTerm t=true:=(iW h.wf).2
theorem iq.H5:az ab=a6 [] (dZ ab):=by rw[jP,iL h.all]
theorem iq.term:∀t∈az ab,isTerm t=true:=by rw[jP];exact qR h.all
theorem iq.kids:gU (az ab):=by rw[h.H5];exact oB _ _ fun t ht=>by simp at ht
theorem iq.nodup:(az ab).Nodup:=by rw[h.H5];exact lh _ _ (by simp)
theorem iq.has:∀l∈ab,∀t∈cd l.atom,t∈az ab:=fun l hl t ht=>by
 rw[jP]
 exact zi h.all t (nd.2 ⟨l,hl,ht⟩)
omit h in
theorem oA:∀t∈numsOf s ab,t∈az ab:=fun t ht=>(List.mem_filter.1 ht).1
theorem iq.num:∀t∈numsOf s ab,isTerm t=true:=fun t ht=>h.term t (oA t ht)
theorem iq.so:(numsOf s ab).Nodup:=h.nodup.filter _
theorem iq.eqs:∀e∈a7 ab,e.A∈az ab∧e.B∈az ab∧(e.A∈numsOf s ab↔e.B∈numsOf s ab):=by
 intro e he
 simp only[a7,List.mem_filterMap] at he
 obtain⟨l,hl,e1⟩:=he
 split at e1
 ·rename_i hk
  simp only[Option.some.injEq] at e1
  have hm:cd l.atom=[l.atom.A,l.atom.B]:=by simp[cd,hk.1]
  rw[←e1]
  exact⟨h.has l hl _ (by rw[hm];simp),h.has l hl _ (by rw[hm];simp),(h.fit l hl).eq hk.1⟩
 ·cases e1
theorem iq.same{l:bl}(hw:cP l.atom=true)(kF:∀t∈cd l.atom,t∈az ab):az (ab++[l])=az ab:=by
 have l7:∀t∈dZ (ab++[l]),isTerm t=true:=by
  rw[BV]
  intro t ht
  rcases aP.1 ht with ht|ht
  ·exact h.all t ht
  ·obtain⟨l',hl',ht2⟩:=nd.1 ht
   simp only[ax,ba,or_false] at hl'
   rw[hl'] at ht2
   exact(na hw).2 t ht2
 rw[jP,iL l7,BV,Hp,←h.H5]
 refine tV _ _ h.kids fun t ht=>?_
 obtain⟨l',hl',ht2⟩:=nd.1 ht
 simp only[ax,ba,or_false] at hl'
 rw[hl'] at ht2
 exact kF t ht2
theorem iq.more{l:bl}(hf:Fit (numsOf s ab) l)(kF:∀t∈cd l.atom,t∈az ab):iq s (ab++[l])∧az (ab++[l])=az ab∧numsOf s (ab++[l])=numsOf s ab:=by
 have e1:=h.same hf.wf kF
 have e2:numsOf s (ab++[l])=numsOf s ab:=by unfold numsOf;rw[e1]
 refine⟨⟨h.sig,fun x hx=>?_,by rw[e1];exact h.n24,by rw[e2];exact h.n4⟩,e1,e2⟩
 rw[e2]
 rcases aP.1 hx with hx|hx
 ·exact h.fit x hx
 ·simp only[ax,ba,or_false] at hx
  rw[hx];exact hf
omit h in
theorem ND{a b:Term}:cd (gx a b).atom=[a,b]:=rfl
omit h in
theorem Iv{a b:Term}:∀t∈cd (dL a b).atom,t=a∨t=b:=by
 intro t ht
 unfold dL at ht
 split at ht
 ·simp[cd] at ht;exact ht.symm
 ·simp[cd] at ht;exact ht
theorem iq.eq{a b:Term}(ha:a∈numsOf s ab)(hb:b∈numsOf s ab):iq s (ab++[gx a b])∧az (ab++[gx a b])=az ab∧numsOf s (ab++[gx a b])=numsOf s ab:=by
 refine h.more (Gr ha hb (h.num a ha) (h.num b hb)) fun t ht=>?_
 rw[ND] at ht
 simp only[ax,ba,or_false] at ht
 rcases ht with rfl|rfl
 ·exact oA _ ha
 ·exact oA _ hb
theorem iq.less{a b:Term}(ha:a∈numsOf s ab)(hb:b∈numsOf s ab)(jD:a≠b):iq s (ab++[dL a b])∧az (ab++[dL a b])=az ab∧numsOf s (ab++[dL a b])=numsOf s ab:=by
 refine h.more (xm ha hb (h.num a ha) (h.num b hb) jD) fun t ht=>?_
 rcases Iv t ht with rfl|rfl
 ·exact oA _ ha
 ·exact oA _ hb
end
def j8(nums:List Term)(c:List Nat)(e:fF):List Nat:=if bL nums e.A<0 then c else gj c (aH nums e.A) (aH nums e.B)
def Qr(nums:List Term)(eqs:List fF):List Nat:=eqs.foldl (j8 nums) (bu nums.length)
theorem LM{nums:List Term}{c d:List Nat}{e:fF}(hab:e.A∈nums↔e.B∈nums)(hc:c.length=nums.length)(hd:d.length=nums.length)(hr:∀i k,i<nums.length→k<nums.length→(cl c i=cl c k↔cl d i=cl d k)) :
 ∀i k,i<nums.length→k<nums.length→(cl (fa nums c e) i=cl (fa nums c e) k↔cl (j8 nums d e) i=cl (j8 nums d e) k):=by
 intro i k hi hk
 unfold fa j8
 rcases aa (e.A∈nums) with hA|hA
 ·have hB:=hab.1 hA
  have a0:=cR.2 hA
  have b0:=cR.2 hB
  have pa:=bz hA
  have pb:=bz hB
  rw[if_neg (by omega),if_neg (by omega),wc (by omega),wc (by omega),Ds (by omega) (by omega),←hr i k hi hk,←hr i _ hi pa,←hr k _ hk pb,←hr i _ hi pb,←hr k _ hk pa]
  split<;>split<;>omega
 ·have a0:bL nums e.A<0:=by
   have:=(not_congr cR).2 hA
   omega
  rw[if_pos (.inl a0),if_pos a0]
  exact hr i k hi hk
theorem JC{nums:List Term}:∀{eqs:List fF}{c d:List Nat},(∀e∈eqs,(e.A∈nums↔e.B∈nums))→c.length=nums.length→d.length=nums.length→(∀i k,i<nums.length→k<nums.length→(cl c i=cl c k↔cl d i=cl d k)) →
 ∀i k,i<nums.length→k<nums.length→(cl (eqs.foldl (fa nums) c) i=cl (eqs.foldl (fa nums) c) k↔cl (eqs.foldl (j8 nums) d) i=cl (eqs.foldl (j8 nums) d) k)
 | [],c,d,_,_,_,hr=>hr
 | e::eqs,c,d,he,hc,hd,hr=>by
   simp only[List.foldl_cons]
   refine JC (fun x hx=>he x (bh _ hx)) (by rw[vT,hc]) ?_ (LM (he e (by simp)) hc hd hr)
   unfold j8
   split
   ·exact hd
   ·rw[fP,hd]
theorem Rk{nums:List Term}{ab:List bl}{i k:Nat}(he:∀e∈a7 ab,(e.A∈nums↔e.B∈nums))(hi:i<nums.length)(hk:k<nums.length):decide (cl (Qr nums (a7 ab)) i=cl (Qr nums (a7 ab)) k)=linked nums ab i k:=by
 have:=JC he (c:=bu nums.length) (d:=bu nums.length) (by simp) (by simp) (fun _ _ _ _=>Iff.rfl) i k hi hk
 unfold linked
 exact decide_eq_decide.2 this.symm
def mc(i k n:Nat):List (Nat×Nat):=(dV k (n-k)).map (fun k=>(i,k))++dP (i+1) n
theorem nL{i n:Nat}(h:i<n):dP i n=mc i (i+1) n:=Es h
theorem ox{i k n:Nat}(h:k<n):mc i k n=(i,k)::mc i (k+1) n:=by
 unfold mc
 rw[od h];rfl
theorem qk{i k n:Nat}(h:n≤k):mc i k n=dP (i+1) n:=by
 unfold mc
 rw[pE h];rfl
def wu{α:Type}(p:α→Bool)(l:List α)(i:Nat):Option Nat:=(dV i (l.length-i)).find? fun i=>match l[i]? with|none=>false|some x=>p x
theorem GO{α:Type}(p:α→Bool)(l:List α):kg p l=wu p l 0:=by
 unfold kg wu
 rw[List.range_eq_range',Nat.sub_zero]
 rfl
theorem DD{α:Type}{p:α→Bool}{l:List α}{i:Nat}(h:i<l.length):wu p l i=if p l[i] then some i else wu p l (i+1):=by
 unfold wu
 rw[od h,List.find?_cons,af h]
 cases hp:p l[i]<;>simp[hp]
theorem GY{α:Type}{p:α→Bool}{l:List α}{i:Nat}(h:l.length≤i):wu p l i=none:=by
 unfold wu
 rw[pE h];rfl
theorem Bi{α:Type}{p:α→Bool}{l:List α}{n:Nat}(h:kg p l=some n):∃hn:n<l.length,p l[n]=true:=by
 have h1:=List.find?_some h
 have h2:=fq.1 (List.mem_of_find?_eq_some h)
 refine⟨h2,?_⟩
 rw[af h2] at h1
 exact h1
def atI:Option Nat→Int
 | none=>-1
 | some n=>n
def told(ab:List bl)(l:bl):Bool:=ab.any fun x=>(x.no == l.no)&&decide (x.atom=l.atom)
theorem Dy{nums:List Term}{ab:List bl}{i k:Nat}:told ab (dL (nums.getD i aL) (nums.getD k aL))=eX nums ab i k:=by
 unfold told eX
 rw[HU]
 congr 1
 funext x
 cases x.no<;>rfl
def Jl(ab:List bl)(l:bl)(i:Nat):Bool:=(ab.drop i).any fun x=>(x.no == l.no)&&decide (x.atom=l.atom)
theorem Rb{ab:List bl}{l:bl}{i:Nat}(h:i<ab.length):Jl ab l i=((ab[i].no == l.no)&&decide (ab[i].atom=l.atom)||Jl ab l (i+1)):=by
 unfold Jl
 rw[ah h,List.any_cons]
theorem S8{ab:List bl}{l:bl}{i:Nat}(h:ab.length≤i):Jl ab l i=false:=by
 unfold Jl
 rw[al h];rfl
def eK(have_:Bool)(aq nums:List Term)(c:List Nat)(ab:List bl)(i k:Nat):Bool:=!linked nums ab i k&&(if have_ then gh aq c (nums.getD i aL) (nums.getD k aL) else(!eX nums ab i k&& !eX nums ab k i))
def rh(aq nums:List Term)(eqs:List fF)(c:List Nat):List D:=[.dC (aN aq),.dC (aN nums),.dC (cS eqs),.dC (bP c)]
attribute [go_sem] rh
theorem Gb{α:Type}{p q:α→Bool}:∀{l:List α},(∀x∈l,p x=q x)→l.takeWhile p=l.takeWhile q∧l.dropWhile p=l.dropWhile q
 | [],_=>⟨rfl,rfl⟩
 | x::l,h=>by
   obtain⟨h1,h2⟩:=Gb (l:=l) fun y hy=>h y (bh _ hy)
   rw[nC,nC,nD,nD,h x (by simp),h1,h2]
   exact⟨rfl,rfl⟩
def nN(rows:List Row)(r:Row):List Row:=
 match rows.dropWhile fun x=>dA x r with
 | []=>rows.takeWhile (fun x=>dA x r)++[r]
 | x::xs=>if x.name=r.name∧x.args=r.args then rows else rows.takeWhile (fun x=>dA x r)++r::x::xs
theorem F5{rows:List Row}{r:Row}(hr:dN r.args=true)(hrs:∀x∈rows,dN x.args=true):putRow rows r=nN rows r:=by
 have e:∀x∈rows,decide (fl x r<0)=dA x r:=fun x hx=>by
  have h:=lH (hrs x hx) hr
  cases hl:dA x r
  ·exact decide_eq_false fun h1=>by rw[h.1 h1] at hl;cases hl
  ·exact decide_eq_true (h.2 hl)
 obtain⟨e1,e2⟩:=Gb e
 have mG:∀x∈rows.dropWhile (fun x=>dA x r),x∈rows:=fun x hx=>(List.dropWhile_sublist _).subset hx
 unfold putRow nN
 simp only[e1,e2]
 cases hd:rows.dropWhile (fun x=>dA x r) with
 | nil=>rfl
 | cons x xs=>
   rw[hd] at mG
   have h:=qM (hrs x (mG x (by simp))) hr
   simp only
   rcases aa (fl x r=0) with hc|hc
   ·rw[if_pos hc,if_pos (h.1 hc)]
   ·rw[if_neg hc,if_neg fun h1=>hc (h.2 h1)]
theorem G6{rows:List Row}{r x:Row}(h:x∈putRow rows r):x∈rows∨x=r:=by
 unfold putRow at h
 have hs1:∀x∈rows.takeWhile (fun x=>decide (fl x r<0)),x∈rows:=fun x hx=>(List.takeWhile_sublist _).subset hx
 have hs2:∀x∈rows.dropWhile (fun x=>decide (fl x r<0)),x∈rows:=fun x hx=>(List.dropWhile_sublist _).subset hx
 simp only at h
 split at h
 ·rcases aP.1 h with h|h
  ·exact .inl (hs1 _ h)
  ·exact .inr (by simpa using h)
 ·rename_i y ys hd
  rw[hd] at hs2
  split at h
  ·exact .inl h
  ·rcases aP.1 h with h|h
   ·exact .inl (hs1 _ h)
   ·rcases ax.1 h with h|h
    ·exact .inr h
    ·exact .inl (hs2 _ h)
theorem Gf(rows:List Row)(r:Row):(putRow rows r).length≤rows.length+1:=by
 unfold putRow
 have h:=congrArg List.length (List.takeWhile_append_dropWhile (p:=fun x=>decide (fl x r<0)) (l:=rows))
 rw[List.length_append] at h
 simp only
 split
 ·rename_i hd
  rw[hd] at h
  simp at h⊢
  omega
 ·rename_i y ys hd
  rw[hd] at h
  split
  ·omega
  ·simp at h⊢
   omega
def rU(p:Row→Bool)(rows:List Row)(i:Nat):Prop:=rows.takeWhile p=rows.take i++(rows.drop i).takeWhile p∧rows.dropWhile p=(rows.drop i).dropWhile p
theorem rU.zero(p:Row→Bool)(rows:List Row):rU p rows 0:=⟨by simp,by simp⟩
theorem rU.step{p:Row→Bool}{rows:List Row}{i:Nat}(h:rU p rows i)(hi:i<rows.length)(hp:p rows[i]=true):rU p rows (i+1):=by
 obtain⟨h1,h2⟩:=h
 rw[ah hi] at h1 h2
 rw[nC,if_pos hp] at h1
 rw[nD,if_pos hp] at h2
 refine⟨?_,h2⟩
 rw[h1,List.take_add_one,af hi,List.append_assoc]
 rfl
theorem rU.stop{p:Row→Bool}{rows:List Row}{i:Nat}(h:rU p rows i)(hi:i<rows.length)(hp:p rows[i]=false):rows.takeWhile p=rows.take i∧rows.dropWhile p=rows[i]::rows.drop (i+1):=by
 obtain⟨h1,h2⟩:=h
 rw[ah hi] at h1 h2
 rw[nC,if_neg (by rw[hp];simp),List.append_nil] at h1
 rw[nD,if_neg (by rw[hp];simp)] at h2
 exact⟨h1,h2⟩
theorem rU.done{p:Row→Bool}{rows:List Row}{i:Nat}(h:rU p rows i)(hi:rows.length≤i):rows.takeWhile p=rows∧rows.dropWhile p=[]:=by
 obtain⟨h1,h2⟩:=h
 rw[al hi] at h1 h2
 rw[List.take_of_length_le hi] at h1
 exact⟨by simpa using h1,h2⟩
theorem WY{aq nums:List Term}{c:List Nat}{aB:List Rat}{t:Term}(hc:∀x∈c,x≤1000)(hv:∀x∈aB,bW x=true):bW (iT aq nums c aB t)=true:=by
 have hle:cl c (aH aq t)≤1000:=by
  rcases bV (aH aq t) c.length with h1|h1
  ·exact hc _ (AL h1)
  ·rw[Zp h1];omega
 unfold iT
 split
 ·exact qy (by omega) (by omega)
 ·rcases bV (aH nums t) aB.length with h1|h1
  ·exact hv _ (mS h1)
  ·rw[List.getD_eq_getElem?_getD,bo h1]
   exact qy (by omega) (by omega)
theorem rV{aq nums:List Term}{c:List Nat}{aB:List Rat}{t:Term}(hc:∀x∈c,x≤1000)(hv:∀x∈aB,bW x=true):dN (iH aq nums c aB t).args=true:=by
 unfold dN
 refine cg.2 fun x hx=>?_
 simp only[iH,bF] at hx
 obtain⟨k,_,rfl⟩:=hx
 exact WY hc hv
theorem Cv{list:List ir}(h:(bO list).code=0):(bO list).aB.length=4∧∀x∈(bO list).aB,bW x=true:=by
 have l7:∀v,lj list v=true→v.length=4∧∀x∈v,bW x=true:=fun v hv=>by
  simp only[lj,qC,ai,decide_eq_true_eq,cg] at hv
  exact hv.2.1
 have hend:∀s0 s1 s2 s3 rows,(iy list s0 s1 s2 s3 rows).code=0→(iy list s0 s1 s2 s3 rows).aB.length=4∧∀x∈(iy list s0 s1 s2 s3 rows).aB,bW x=true:=fun s0 s1 s2 s3 rows h=>by
  unfold iy at h⊢
  split at h
  ·split at h<;>simp at h
  ·split at h
   ·simp at h
   ·split at h
    ·rename_i hf
     rw[if_pos hf]
     exact l7 _ hf
    ·simp at h
 unfold bO at h⊢
 split at h
 ·rename_i hs
  rw[if_pos hs]
  split at h
  ·simp at h
  ·split at h
   ·simp at h
   ·split at h
    ·simp at h
    ·split at h
     ·simp at h
     ·exact hend _ _ _ _ _ h
 ·simp at h
theorem NN{t:Term}(h:isTerm t=true):t.kids.length≤2:=by
 have h1:=gN h
 cases t with
 | mk n ks=>
   simp only[bN,ai,decide_eq_true_eq] at h1
   exact h1.2.1
theorem Bz{a:Atom}(h:cP a=true):a.times.length≤4:=by
 rcases aa (a.kind=1) with h1|h1
 ·simp only[cP,if_pos h1,ai,decide_eq_true_eq] at h
  omega
 ·rcases aa (a.kind=2) with h2|h2
  ·have:=mT h h2
   omega
  ·simp[cP,h1,h2] at h
section
variable{s:dI}{ab:List bl}(h:iq s ab)
include h
theorem iq.MW:∀t∈az ab,t.kids.length≤1000:=fun t ht=>by
 have:=NN (h.term t ht)
 omega
theorem iq.Wg:(az ab).length≤1000:=by
 have:=h.n24
 omega
theorem iq.Bm:∀e∈a7 ab,e.A∈az ab∧e.B∈az ab:=fun e he=>⟨(h.eqs e he).1,(h.eqs e he).2.1⟩
theorem iq.WH:∀e∈a7 ab,(e.A∈numsOf s ab↔e.B∈numsOf s ab):=fun e he=>(h.eqs e he).2.2
theorem iq.Nv:(closed (az ab) (a7 ab)).1.length=(az ab).length:=Ow (mH h.Bm)
theorem iq.L6:∀x∈(closed (az ab) (a7 ab)).1,x≤1000:=by
 have hk:=mH h.Bm
 have h1:=vz hk _ (Nat.le_refl _)
 rw[←hk.2] at h1
 intro x hx
 have h2:=Vu hx
 have h3:(bu (az ab).length).sum≤(bu (az ab).length).length*23:=pJ fun x hx=>by
  have:=fq.1 hx
  have:=h.n24
  omega
 have h4:(bu (az ab).length).length*23≤24*23:=Nat.mul_le_mul_right _ (by simpa using h.n24)
 omega
theorem iq.Mu:∀l∈ab,l.atom.kind=1→l.atom.A∈az ab∧l.atom.B∈az ab:=fun l hl hk=>by
 have hm:cd l.atom=[l.atom.A,l.atom.B]:=by simp[cd,hk]
 exact⟨h.has l hl _ (by rw[hm];simp),h.has l hl _ (by rw[hm];simp)⟩
end
theorem Ah(s:dI)(ab:List bl):(az ab).filter (dx s)=numsOf s ab:=rfl
theorem vR{aq nums:List Term}{c:List Nat}{ab:List bl}{i k:Nat}(h:eK false aq nums c ab i k=true):qQ nums ab i k=true:=h
theorem rq{v:Bool}{aq nums:List Term}{c:List Nat}{ab:List bl}{i k:Nat}(h:eK v aq nums c ab i k=true):linked nums ab i k=false:=by
 unfold eK at h
 cases hl:linked nums ab i k
 ·rfl
 ·rw[hl] at h;simp at h
def Next(s:dI)(ab:List bl)(l:bl):Prop:=iq s (ab++[l])∧az (ab++[l])=az ab∧numsOf s (ab++[l])=numsOf s ab∧room (numsOf s ab) (ab++[l])<room (numsOf s ab) ab
theorem FA{s:dI}{ab:List bl}(h:iq s ab){i k:Nat}(h1:i<k)(h2:k<(numsOf s ab).length)(hl:linked (numsOf s ab) ab i k=false):Next s ab (gx ((numsOf s ab).getD i aL) ((numsOf s ab).getD k aL)):=by
 obtain⟨g1,g2,g3⟩:=h.eq (a:=(numsOf s ab).getD i aL) (b:=(numsOf s ab).getD k aL) (mS (by omega)) (mS h2)
 exact⟨g1,g2,g3,XS h.so h1 h2 hl⟩
theorem Ct{s:dI}{ab:List bl}(h:iq s ab){i k:Nat}(h1:i<k)(h2:k<(numsOf s ab).length):(numsOf s ab).getD i aL≠(numsOf s ab).getD k aL:=fun e=>by
 have a1:=jK h.so (by omega:i<(numsOf s ab).length)
 have a2:=jK h.so h2
 rw[fc (by omega),fc h2] at e
 rw[e] at a1
 omega
theorem TM{s:dI}{ab:List bl}(h:iq s ab){i k:Nat}(h1:i<k)(h2:k<(numsOf s ab).length)(hl:qQ (numsOf s ab) ab i k=true):Next s ab (dL ((numsOf s ab).getD i aL) ((numsOf s ab).getD k aL))∧Next s ab (dL ((numsOf s ab).getD k aL) ((numsOf s ab).getD i aL)):=by
 have jD:=Ct h h1 h2
 have hi:=mS (d:=aL) (by omega:i<(numsOf s ab).length)
 have hk:=mS (d:=aL) h2
 obtain⟨g1,g2,g3⟩:=h.less hi hk jD
 obtain⟨f1,f2,f3⟩:=h.less hk hi (Ne.symm jD)
 exact⟨⟨g1,g2,g3,Kv h1 h2 hl (.inl rfl)⟩,⟨f1,f2,f3,Kv h1 h2 hl (.inr rfl)⟩⟩
theorem xv{s:dI}{ab:List bl}(h:iq s ab){i k:Nat}(h1:i<k)(h2:k<(numsOf s ab).length)(hl:qQ (numsOf s ab) ab i k=true):∀l∈fm ((numsOf s ab).getD i aL) ((numsOf s ab).getD k aL),Next s ab l:=by
 have hlk:linked (numsOf s ab) ab i k=false:=rq (v:=false) (aq:=[]) (c:=[]) hl
 obtain⟨n1,n2⟩:=TM h h1 h2 hl
 intro l hm
 simp only[fm,ax,ba,or_false] at hm
 rcases hm with rfl|rfl|rfl
 ·exact FA h h1 h2 hlk
 ·exact n1
 ·exact n2
theorem nU{run:List bl→zV}{a b:Term}{l:List bl}{ls:List (List bl)}{out:List Case}:oc run a b (l::ls) out=if(run l).code=1 then oc run a b ls (out++[(run l).case]) else⟨(run l).model,tg,(run l).code⟩:=rfl
theorem pC{run:List bl→zV}{a b:Term}{out:List Case}:oc run a b [] out=⟨mj,.mk 4 0 sY [] a b out,1⟩:=rfl
theorem Vf(n:Nat):atI (some n)=n:=rfl
theorem V0:atI none = -1:=rfl
section
variable{s:dI}{aq nums:List Term}{f:Nat}{ab:List bl}
theorem ux(h:12<(a7 ab).length):il s aq nums (f+1) ab=r6:=by
 simp only[il,if_pos h]
variable(h:¬12<(a7 ab).length)
include h
theorem rD{n:Nat}(hc:kg (jh aq (closed aq (a7 ab)).1) ab=some n):il s aq nums (f+1) ab=⟨mj,.mk 1 n (l8 aq (closed aq (a7 ab)).2 (ab.getD n EF).atom.A (ab.getD n EF).atom.B) [] aL aL [],1⟩:=by
 simp only[il,if_neg h,hc]
variable(hc:kg (jh aq (closed aq (a7 ab)).1) ab=none)
include hc
theorem uf(hf:(bO (dX nums ab)).code=1):il s aq nums (f+1) ab=⟨mj,.mk 2 0 sY (bO (dX nums ab)).times aL aL [],1⟩:=by
 simp only[il,if_neg h,hc,if_pos hf]
theorem uP(hf:(bO (dX nums ab)).code≠1)(hf2:(bO (dX nums ab)).code≠0):il s aq nums (f+1) ab=r6:=by
 simp only[il,if_neg h,hc,if_neg hf,if_pos hf2]
variable(hf:(bO (dX nums ab)).code=0)
include hf
theorem ue{q:Nat×Nat}(hp:b7 nums.length (eK true aq nums (closed aq (a7 ab)).1 ab)=some q):il s aq nums (f+1) ab=zf (l8 aq (closed aq (a7 ab)).2 (nums.getD q.1 aL) (nums.getD q.2 aL)) (il s aq nums f (ab++[gx (nums.getD q.1 aL) (nums.getD q.2 aL)])):=by
 have hp':b7 nums.length (fun i k=>!linked nums ab i k&&gh aq (closed aq (a7 ab)).1 (nums.getD i aL) (nums.getD k aL))=some q:=hp
 have h1:¬ (bO (dX nums ab)).code=1:=by omega
 simp only[il,if_neg h,hc,if_neg h1,hf,ne_eq,not_true_eq_false,if_false,hp']
 rw[if_neg (by decide)]
variable(hp:b7 nums.length (eK true aq nums (closed aq (a7 ab)).1 ab)=none)
include hp
theorem qH{q:Nat×Nat}(hq:b7 nums.length (eK false aq nums (closed aq (a7 ab)).1 ab)=some q):il s aq nums (f+1) ab=oc (il s aq nums f) (nums.getD q.1 aL) (nums.getD q.2 aL) ((fm (nums.getD q.1 aL) (nums.getD q.2 aL)).map fun l=>ab++[l]) []:=by
 have hp':b7 nums.length (fun i k=>!linked nums ab i k&&gh aq (closed aq (a7 ab)).1 (nums.getD i aL) (nums.getD k aL))=none:=hp
 have hq':b7 nums.length (fun i k=>!linked nums ab i k&&(!eX nums ab i k&& !eX nums ab k i))=some q:=hq
 have h1:¬ (bO (dX nums ab)).code=1:=by omega
 simp only[il,if_neg h,hc,if_neg h1,hf,ne_eq,not_true_eq_false,if_false,hp',hq']
 rw[if_neg (by decide)]
variable(hq:b7 nums.length (eK false aq nums (closed aq (a7 ab)).1 ab)=none)
include hq
theorem rE:il s aq nums (f+1) ab=if eP s ⟨ia aq nums (closed aq (a7 ab)).1 (bO (dX nums ab)).aB⟩ ab=true then⟨⟨ia aq nums (closed aq (a7 ab)).1 (bO (dX nums ab)).aB⟩,tg,0⟩ else r6:=by
 have hp':b7 nums.length (fun i k=>!linked nums ab i k&&gh aq (closed aq (a7 ab)).1 (nums.getD i aL) (nums.getD k aL))=none:=hp
 have hq':b7 nums.length (fun i k=>!linked nums ab i k&&(!eX nums ab i k&& !eX nums ab k i))=none:=hq
 have h1:¬ (bO (dX nums ab)).code=1:=by omega
 simp only[il,if_neg h,hc,if_neg h1,hf,ne_eq,not_true_eq_false,if_false,hp',hq']
 rw[if_neg (by decide)]
end
def zn(e:Edge):List D:=[.val (.int .i64 (e.step:Int)),.val (.bool e.back)]
def dv(l:List Edge):List (List D):=l.map zn
theorem Lb(l:List Edge):(dv l).length=l.length:=by simp[dv]
theorem wm{l:List Edge}{i:Nat}(h:i<l.length):row (dv l) i=zn l[i]:=by simp[dv,row,List.getD,af h]
theorem LN(l:List Edge):∀y∈dv l,y.length=2:=by
 intro y hy
 obtain⟨t,_,rfl⟩:=bF.1 hy
 rfl
theorem rl(a b:List Edge):dv a++dv b=dv (a++b):=by simp[dv]
theorem oK:dv []=[]:=rfl
theorem qa(n:Edge)(l:List Edge):dv (n::l)=zn n::dv l:=rfl
theorem Mv{l:List Edge}{i:Nat}{e:Edge}:(dv l).set i (zn e)=dv (l.set i e):=by simp[dv,List.map_set]
attribute [go_sem] Lb wm oK zn
structure Lq{α:Type}(l ys:List α)(i:Nat):Prop where
 len:ys.length=l.length
 at_:∀k,k<l.length→ys[k]?=if k<i∨l.length-1-k<i then l[l.length-1-k]? else l[k]?
theorem Lq.zero{α:Type}(l:List α):Lq l l 0:=⟨rfl,fun k _=>by simp⟩
theorem Lq.step{α:Type}{l ys:List α}{i j:Nat}(h:Lq l ys i)(hij:i<j)(hj:i+j+1=l.length)(hi':i<ys.length)(hj':j<ys.length):Lq l ((ys.set i ys[j]).set j ys[i]) (i+1):=by
 have dz:=h.len
 refine⟨by simp[dz],fun k hk=>?_⟩
 have e1:ys[j]?=some ys[j]:=af hj'
 have e2:ys[i]?=some ys[i]:=af hi'
 have a1:=h.at_ j (by omega)
 have a2:=h.at_ i (by omega)
 have a3:=h.at_ k hk
 rw[if_neg (by omega)] at a1 a2
 rw[e1] at a1
 rw[e2] at a2
 rcases Nat.lt_trichotomy k j with h1|h1|h1
 ·rw[kD (by omega)]
  rcases aa (k=i) with h2|h2
  ·subst h2
   rw[o5 hi',if_pos (.inl (by omega)),a1]
   congr 1
   omega
  ·rw[kD (by omega),a3]
   rcases aa (k<i∨l.length-1-k<i) with h3|h3
   ·rw[if_pos h3,if_pos (by omega)]
   ·rw[if_neg h3,if_neg (by omega)]
 ·subst h1
  rw[o5 (by simpa using hj'),if_pos (.inr (by omega)),a2]
  congr 1
  omega
 ·rw[kD (by omega),kD (by omega),a3,if_pos (by omega),if_pos (by omega)]
theorem Lq.done{α:Type}{l ys:List α}{i:Nat}(h:Lq l ys i)(hi:l.length≤2*i+1):ys=l.reverse:=by
 apply List.ext_getElem?
 intro k
 rcases bV k l.length with h1|h1
 ·rw[h.at_ k h1,List.getElem?_reverse h1]
  rcases aa (k<i∨l.length-1-k<i) with h2|h2
  ·rw[if_pos h2]
  ·rw[if_neg h2]
   congr 1
   omega
 ·rw[bo (by rw[h.len];exact h1),bo (by simpa using h1)]
def AN(cu:List (Nat×Edge)):List (Int×Value):=(iU cu).map fun(v:Nat)=>((v:Int),Value.bool true)
def oS(cu:List (Nat×Edge)):List (Int×Value):=(cu.drop 1).map fun p=>((p.1:Int),Value.agg #[.int .i64 (p.2.step:Int),.bool p.2.back])
theorem Cu(a b:List (Nat×Edge)):AN (a++b)=AN a++AN b:=by simp[AN,iU]
theorem tt{a:List (Nat×Edge)}{p:Nat×Edge}(h:0<a.length):oS (a++[p])=oS a++[((p.1:Int),Value.agg #[.int .i64 (p.2.step:Int),.bool p.2.back])]:=by
 unfold oS
 rw[List.drop_append_of_le_length (by omega),List.map_append]
 rfl
theorem J0:∀{l:List Nat}{n:Nat},n∈l→kH (l.map fun(v:Nat)=>((v:Int),Value.bool true)) (n:Int)=some (.bool true)
 | v::l,n,h=>by
   simp only[aQ,kH]
   rcases aa ((n:Int)=(v:Int)) with h1|h1
   ·rw[if_pos h1]
   ·rw[if_neg h1]
    rcases ax.1 h with h|h
    ·exact absurd (by rw[h]) h1
    ·exact J0 h
theorem GS:∀{l:List Nat}{n:Nat},n∉l→kH (l.map fun(v:Nat)=>((v:Int),Value.bool true)) (n:Int)=none
 | [],_,_=>rfl
 | v::l,n,h=>by
   simp only[aQ,kH]
   rw[if_neg (fun e=>h (by simp[show n=v by omega]))]
   exact GS fun h1=>h (bh _ h1)
theorem Ab{cu:List (Nat×Edge)}{n:Nat}(h:n∈iU cu):kH (AN cu) (n:Int)=some (.bool true):=J0 h
theorem ri{cu:List (Nat×Edge)}{n:Nat}(h:n∉iU cu):kH (AN cu) (n:Int)=none:=GS h
theorem B6:∀{l:List (Nat×Edge)}{j:Nat}{v:Nat}{e:Edge},(l.map Prod.fst).Nodup→l[j]?=some (v,e)→kH (l.map fun p=>((p.1:Int),Value.agg #[.int .i64 (p.2.step:Int),.bool p.2.back])) (v:Int)=some (.agg #[.int .i64 (e.step:Int),.bool e.back])
 | [],j,v,e,_,h=>by simp at h
 | p::l,0,v,e,_,h=>by
   simp only[List.getElem?_cons_zero,Option.some.injEq] at h
   subst h
   simp[kH]
 | p::l,j+1,v,e,hn,h=>by
   simp only[List.getElem?_cons_succ] at h
   simp only[aQ,cJ] at hn
   have hm:v∈l.map Prod.fst:=bF.2 ⟨(v,e),List.mem_of_getElem? h,rfl⟩
   simp only[aQ,kH]
   rw[if_neg (fun e1=>hn.1 (by rw[show p.1=v by omega];exact hm))]
   exact B6 hn.2 h
theorem Jg{cu:List (Nat×Edge)}(hn:(iU cu).Nodup){j v:Nat}{e:Edge}(hj:0<j)(h:cu[j]?=some (v,e)):kH (oS cu) (v:Int)=some (.agg #[.int .i64 (e.step:Int),.bool e.back]):=by
 refine B6 (j:=j-1) ?_ ?_
 ·rw[List.map_drop]
  exact hn.sublist (List.drop_sublist _ _)
 ·rw[List.getElem?_drop,show 1+(j-1)=j by omega]
  exact h
theorem sF{cu:List (Nat×Edge)}{n:Nat}(h:n∉iU cu):kH (oS cu) (n:Int)=none:=by
 have key:∀{l:List (Nat×Edge)},(∀p∈l,p.1≠n)→kH (l.map fun p=>((p.1:Int),Value.agg #[.int .i64 (p.2.step:Int),.bool p.2.back])) (n:Int)=none:=by
  intro l
  induction l with
  | nil=>intro _;rfl
  | cons p l ih=>
    intro hl
    simp only[aQ,kH]
    rw[if_neg (fun e=>hl p (by simp) (by omega))]
    exact ih fun q hq=>hl q (bh _ hq)
 refine key fun p hp e=>h ?_
 rw[←e]
 exact bF.2 ⟨p,fM hp,rfl⟩
def Av(aj:List Step)(k:Nat)(cu:List (Nat×Edge))(v:Nat):Prop:=∀j,j<k→(vA aj j=v→vB aj j∈iU cu)∧(vB aj j=v→vA aj j∈iU cu)
theorem OA(aj:List Step)(cu:List (Nat×Edge))(v:Nat):Av aj 0 cu v:=fun j hj=>by omega
theorem Pl{aj:List Step}{n:Nat}{cu:List (Nat×Edge)}{v:Nat}(h:Av aj n cu v):Seen aj n cu v:=h
theorem og{aj:List Step}{k:Nat}{cu:List (Nat×Edge)}{v:Nat}(h:Av aj k cu v)(h1:vA aj k=v→vB aj k∈iU cu)(h2:vB aj k=v→vA aj k∈iU cu):Av aj (k+1) cu v:=fun j hj=>by
 rcases bV j k with h3|h3
 ·exact h j h3
 ·obtain rfl:j=k:=by omega
  exact⟨h1,h2⟩
theorem DY{aj:List Step}{k:Nat}{a b:List (Nat×Edge)}{v:Nat}(h:Av aj k a v):Av aj k (a++b) v:=Kq (n:=k) h
theorem JN:∀(rs:List Row)(t:Row),rs.takeWhile (fun x=>decide (fl x t<0))=rs.take (cut rs t)∧rs.dropWhile (fun x=>decide (fl x t<0))=rs.drop (cut rs t)
 | [],_=>by simp[cut]
 | r::rs,t=>by
   obtain⟨h1,h2⟩:=JN rs t
   rcases aa (fl r t<0) with h|h
   ·simp[cut,h,h1,h2]
   ·simp[cut,h]
theorem sr(rs:List Row)(t:Row):putRow rs t=if found rs t then rs else rs.take (cut rs t)++t::rs.drop (cut rs t):=by
 obtain⟨h1,h2⟩:=JN rs t
 unfold putRow found
 simp only[h1,h2]
 rcases bV (cut rs t) rs.length with h|h
 ·rw[ah h,af h]
  rcases aa (fl rs[cut rs t] t=0) with hc|hc
  ·simp[hc]
  ·simp[hc]
 ·rw[al h,bo h]
  simp
theorem ze{a b:Rat}(ha:bW a=true)(hb:bW b=true)(h:a≠b):c8 a b=true∨c8 b a=true:=by
 rw[fJ ha hb,fJ hb ha]
 have h1:a.N*b.D≠b.N*a.D:=fun e=>h (C6 ha hb e)
 omega
theorem w6:∀{as bs:List Rat},dN as=true→dN bs=true→as.length=bs.length→as≠bs→gk as bs=true∨gk bs as=true
 | [],[],_,_,_,h=>absurd rfl h
 | [],b::bs,_,_,h,_=>by simp at h
 | a::as,[],_,_,h,_=>by simp at h
 | a::as,b::bs,h1,h2,h3,h4=>by
   simp only[dN,List.all_cons,ai] at h1 h2
   simp only[gk]
   rcases aa (a=b) with h|h
   ·rw[if_pos h,if_pos h.symm]
    exact w6 h1.2 h2.2 (by simpa using h3) fun e=>h4 (by rw[h,e])
   ·rw[if_neg h,if_neg (Ne.symm h)]
    exact ze h1.1 h2.1 h
theorem NU{a b:nE}(h:a≠b):gC a b=true∨gC b a=true:=by
 cases h1:gC a b
 ·cases h2:gC b a
  ·exact absurd (qK.1 (by simp[nW,h1,h2])) h
  ·exact .inr rfl
 ·exact .inl rfl
theorem Io{a b:Row}(ha:dN a.args=true)(hb:dN b.args=true)(h:¬ (a.name=b.name∧a.args=b.args)):dA a b=true∨dA b a=true:=by
 unfold dA
 rcases aa (a.name=b.name) with h1|h1
 ·rw[if_pos h1,if_pos h1.symm]
  rcases aa (a.args.length=b.args.length) with h2|h2
  ·rw[if_pos h2,if_pos h2.symm]
   exact w6 ha hb h2 fun e=>h ⟨h1,e⟩
  ·rw[if_neg h2,if_neg (Ne.symm h2)]
   rcases bV a.args.length b.args.length with h3|h3
   ·exact .inl (decide_eq_true h3)
   ·exact .inr (decide_eq_true (by omega))
 ·rw[if_neg h1,if_neg (Ne.symm h1)]
  exact NU h1
theorem J6{rs:List Row}{t:Row}(h1:∀r∈rs,dN r.args=true)(h2:rs.Pairwise (fun a b=>dA a b=true))(ht:dN t.args=true):lL rs t:=by
 refine List.Pairwise.imp_of_mem ?_ h2
 intro a b ha hb hab hbt
 have wa:=h1 a ha
 have wb:=h1 b hb
 rw[lH wb ht] at hbt
 rw[lH wa ht]
 exact qc wa wb ht hab hbt
theorem Ob{rs:List Row}{t:Row}(h1:∀r∈rs,dN r.args=true)(h2:rs.Pairwise (fun a b=>dA a b=true))(ht:dN t.args=true):(putRow rs t).Pairwise (fun a b=>dA a b=true):=by
 have hm:=J6 h1 h2 ht
 have hc:=fun k h=>tC hm k h
 rw[sr]
 cases hf:found rs t
 ·rw[if_neg (by simp)]
  have hsplit:=h2
  rw[←List.take_append_drop (cut rs t) rs] at hsplit
  obtain⟨p1,p2,p3⟩:=List.pairwise_append.1 hsplit
  have hlo:∀x∈rs.take (cut rs t),dA x t=true:=fun x hx=>by
   obtain⟨k,hk,rfl⟩:=List.mem_iff_getElem.1 hx
   have hk2:k<cut rs t:=by rw[bT] at hk;omega
   have hk3:k<rs.length:=by rw[bT] at hk;omega
   rw[List.getElem_take]
   exact(lH (h1 _ (ak hk3)) ht).1 ((hc k hk3).1 hk2)
  have hhi:∀y∈rs.drop (cut rs t),dA t y=true:=fun y hy=>by
   rcases bV (cut rs t) rs.length with h|h
   ·have w0:=h1 _ (ak h)
    have n1:¬fl rs[cut rs t] t<0:=fun e=>by
     have:=(hc _ h).2 e
     omega
    have n2:fl rs[cut rs t] t≠0:=fun e=>by
     rw[found,af h] at hf
     simp[e] at hf
    have h0:dA t rs[cut rs t]=true:=by
     rcases Io w0 ht (fun e=>n2 ((qM w0 ht).2 e)) with h3|h3
     ·exact absurd ((lH w0 ht).2 h3) n1
     ·exact h3
    rw[ah h] at hy p2
    rcases ax.1 hy with rfl|hy2
    ·exact h0
    ·exact qc ht w0 (h1 _ (fM hy2)) h0 ((n8.1 p2).1 y hy2)
   ·rw[al h] at hy
    simp at hy
  refine List.pairwise_append.2 ⟨p1,n8.2 ⟨hhi,p2⟩,fun x hx y hy=>?_⟩
  rcases ax.1 hy with rfl|hy
  ·exact hlo x hx
  ·exact p3 x hx y hy
 ·rw[if_pos rfl]
  exact h2
def wq(b:List Int)(s:dI)(p:Int):bl×Int:=(⟨(nT b s p).1,decide (dp b (nT b s p).2 3=0)⟩,(nT b s p).2+1)
theorem PO{b:List Int}(hb:yV b){s:dI}(h:fE s){p:Int}(hp:0≤p):p≤(wq b s p).2∧(wq b s p).2≤p+61:=by
 have h1:=PX hb h hp
 simp only[wq]
 omega
def xE(b:List Int)(s:dI):Nat→List bl→Int→List bl×Int
 | 0,out,p=>(out,p)
 | n+1,out,p=>xE b s n (if e6 s (out++[(wq b s p).1]) then out++[(wq b s p).1] else out) (wq b s p).2
def zD(b:List Int)(s:dI):Nat→List bl→Int→List bl×Int
 | 0,out,p=>(out,p)
 | n+1,out,p=>zD b s n (out++[(wq b s p).1]) (wq b s p).2
def sj(b:List Int)(s:dI)(p:Int):List bl×Int:=xE b s (j5 b p [3,4,5,2,6,1,0]).toNat [] (p+1)
def DI(b:List Int)(p:Int):dI×List bl×Int:=
 let g:=wM b p
 let r:=sj b g.1 g.2
 let k:=dp b r.2 48
 if k=0 then(g.1,r.1++[⟨(Ef b g.1 (r.2+1)).1,false⟩],(Ef b g.1 (r.2+1)).2) else
 if k=1 then(g.1,(zD b g.1 (7-r.1.length) r.1 (r.2+1)).1,(zD b g.1 (7-r.1.length) r.1 (r.2+1)).2) else
 if k=2 then((jr b (jr b g.1 (r.2+1)).1 (jr b g.1 (r.2+1)).2).1,r.1,(jr b (jr b g.1 (r.2+1)).1 (jr b g.1 (r.2+1)).2).2) else
 if k=3 then(g.1,r.1++[EF],r.2+1) else(g.1,r.1,r.2+1)
def GX(b:List Int):dI×List bl:=((DI b 0).1,(DI b 0).2.1)
theorem Sw{b:List Int}(hb:yV b){s:dI}(h:fE s):∀(n:Nat)(out:List bl)(p:Int),0≤p→p≤(xE b s n out p).2∧(xE b s n out p).2≤p+n*61∧(xE b s n out p).1.length≤out.length+n
 | 0,out,p,_=>by simp[xE]
 | n+1,out,p,hp=>by
   have h1:=PO hb h hp
   have h2:=Sw hb h n (if e6 s (out++[(wq b s p).1]) then out++[(wq b s p).1] else out) (wq b s p).2 (by omega)
   have h3:(if e6 s (out++[(wq b s p).1]) then out++[(wq b s p).1] else out).length≤out.length+1:=by
    split
    ·simp
    ·omega
   simp only[xE]
   omega
theorem Sv{b:List Int}(hb:yV b){s:dI}(h:fE s){p:Int}(hp:0≤p):p≤(sj b s p).2∧(sj b s p).2≤p+500∧(sj b s p).1.length≤6:=by
 have hm:=xf hb (p:=p) (l:=[3,4,5,2,6,1,0]) hp (by simp)
 simp only[ax,ba,or_false] at hm
 have hk:(j5 b p [3,4,5,2,6,1,0]).toNat≤6:=by omega
 have:=Sw hb h (j5 b p [3,4,5,2,6,1,0]).toNat [] (p+1) (by omega)
 simp only[sj]
 simp only[List.length_nil] at this
 omega
theorem Bw{s:dI}{m:Model}{a c:List bl}(h:eP s m (a++c)=true):eP s m a=true:=by
 simp only[eP,List.all_append,ai] at h⊢
 exact⟨h.1,h.2.1⟩
theorem Jr{run:List bl→zV}{a b:Term}:∀{ls:List (List bl)}{out:List Case},(oc run a b ls out).code=0→∃l∈ls,(run l).code=0∧(oc run a b ls out).model=(run l).model
 | [],out,h=>by rw[pC] at h;simp at h
 | l::ls,out,h=>by
   rw[nU] at h⊢
   rcases aa ((run l).code=1) with h1|h1
   ·rw[if_pos h1] at h⊢
    obtain⟨x,hx,h2,h3⟩:=Jr h
    exact⟨x,bh _ hx,h2,h3⟩
   ·rw[if_neg h1] at h⊢
    exact⟨l,by simp,h,rfl⟩
theorem G5{run:List bl→zV}{a b:Term}:∀{ls:List (List bl)}{out:List Case},(oc run a b ls out).code=1→(oc run a b ls out).case.kind=4
 | [],out,h=>by rw[pC];rfl
 | l::ls,out,h=>by
   rw[nU] at h⊢
   rcases aa ((run l).code=1) with h1|h1
   ·rw[if_pos h1] at h⊢
    exact G5 h
   ·rw[if_neg h1] at h
    exact absurd h h1
section
variable{s:dI}{aq nums:List Term}
theorem Gy:∀(f:Nat)(ab:List bl),((il s aq nums f ab).code=0→eP s (il s aq nums f ab).model ab=true)∧((il s aq nums f ab).code=1→1≤(il s aq nums f ab).case.kind)
 | 0,ab=>by
   constructor<;>(intro h;simp[il,r6] at h)
 | f+1,ab=>by
   rcases aa (12<(a7 ab).length) with h12|h12
   ·rw[ux h12]
    constructor<;>(intro h;simp[r6] at h)
   cases hc:kg (jh aq (closed aq (a7 ab)).1) ab with
   | some n=>
     rw[rD h12 hc]
     exact⟨fun h=>by simp at h,fun _=>by simp[Case.kind]⟩
   | none=>
   rcases aa ((bO (dX nums ab)).code=1) with h1|h1
   ·rw[uf h12 hc h1]
    exact⟨fun h=>by simp at h,fun _=>by simp[Case.kind]⟩
   rcases aa ((bO (dX nums ab)).code=0) with h0|h0
   ·cases hp:b7 nums.length (eK true aq nums (closed aq (a7 ab)).1 ab) with
    | some q=>
      rw[ue h12 hc h0 hp]
      obtain⟨i1,i2⟩:=Gy f (ab++[gx (nums.getD q.1 aL) (nums.getD q.2 aL)])
      generalize il s aq nums f (ab++[gx (nums.getD q.1 aL) (nums.getD q.2 aL)])=r at *
      unfold zf
      rcases aa (r.code=1) with hr|hr
      ·rw[if_pos hr]
       exact⟨fun h=>by simp at h,fun _=>by simp[Case.kind]⟩
      ·rw[if_neg hr]
       exact⟨fun h=>Bw (i1 h),fun h=>absurd h hr⟩
    | none=>
    cases hq:b7 nums.length (eK false aq nums (closed aq (a7 ab)).1 ab) with
    | some q=>
      rw[qH h12 hc h0 hp hq]
      refine⟨fun h=>?_,fun h=>by rw[G5 h];omega⟩
      obtain⟨l,hl,h2,h3⟩:=Jr h
      rw[h3]
      obtain⟨x,_,rfl⟩:=bF.1 hl
      exact Bw ((Gy f (ab++[x])).1 h2)
    | none=>
      rw[rE h12 hc h0 hp hq]
      rcases aa (eP s ⟨ia aq nums (closed aq (a7 ab)).1 (bO (dX nums ab)).aB⟩ ab=true) with hm|hm
      ·rw[if_pos hm]
       exact⟨fun _=>hm,fun h=>by simp at h⟩
      ·rw[if_neg hm]
       constructor<;>(intro h;simp[r6] at h)
   ·rw[uP h12 hc h1 h0]
    constructor<;>(intro h;simp[r6] at h)
theorem MM{ab:List bl}(h:(eC s ab).code=0):eP s (eC s ab).model ab=true:=by
 unfold eC at h⊢
 split at h
 ·rename_i hb
  rw[if_pos hb]
  exact(Gy 13 ab).1 h
 ·simp at h
end
def ab6(s:dI)(ab:List bl):List fF:=if e6 s ab then a7 ab else []
def abh(s:dI)(ab:List bl):List ir:=if e6 s ab then dX (numsOf s ab) ab else []
def abB(s:dI)(ab:List bl):List Term:=if e6 s ab then numsOf s ab else []
theorem w7{α:Type}[DecidableEq α]:∀{l m:List α},l.Nodup→(∀x∈l,x∈m)→l.length≤m.length
 | [],_,_,_=>Nat.zero_le _
 | x::l,m,hn,hs=>by
   have hx:x∈m:=hs x (by simp)
   obtain⟨h1,h2⟩:=cJ.1 hn
   have h3:=w7 (l:=l) (m:=m.erase x) h2 fun y hy=>(List.mem_erase_of_ne (show y≠x from fun e=>h1 (by rw[←e];exact hy))).2 (hs y (by simp[hy]))
   have h4:=List.length_erase_of_mem hx
   have h5:=List.length_pos_of_mem hx
   simp only[List.length_cons]
   omega
mutual
theorem Hl:∀(t:Term)(l p:List Term),gU p→t∈p→(∀u∈l,u∈p)→∀u∈dh l t,u∈p
 | .mk n ks,l,p,hp,ht,hl,u,hu=>by
   have h1:=nM ks l p hp (fun k hk=>hp _ ht k hk) hl
   rw[dh] at hu
   split at hu
   ·simp only[aP,ax,ba,or_false] at hu
    rcases hu with hu|rfl
    ·exact h1 u hu
    ·exact ht
   ·exact h1 u hu
theorem nM:∀(ts l p:List Term),gU p→(∀t∈ts,t∈p)→(∀u∈l,u∈p)→∀u∈a6 l ts,u∈p
 | [],l,p,_,_,hl,u,hu=>hl u (by simpa[a6] using hu)
 | t::ts,l,p,hp,ht,hl,u,hu=>by
   rw[a6] at hu
   exact nM ts _ p hp (fun x hx=>ht x (by simp[hx])) (Hl t l p hp (ht t (by simp)) hl) u hu
end
theorem OG{ts p:List Term}(h:∀t∈ts,isTerm t=true)(hp:gU p)(hs:∀t∈ts,t∈p):(je ts).length≤p.length:=by
 rw[iL h]
 exact w7 (lh ts [] (by simp)) (nM ts [] p hp hs (by simp))
theorem Kh{eqs:List fF}{t:Term}:t∈qI eqs↔∃e∈eqs,t=e.A∨t=e.B:=by simp[qI]
theorem CV{ab:List bl}{e:fF}:e∈a7 ab↔∃l∈ab,l.atom.kind=1∧l.no=false∧e=⟨l.atom.A,l.atom.B⟩:=by
 simp only[a7,List.mem_filterMap]
 constructor
 ·rintro⟨l,hl,h⟩
  split at h
  ·rename_i hk
   exact⟨l,hl,hk.1,hk.2,(Option.some.inj h).symm⟩
  ·cases h
 ·rintro⟨l,hl,h1,h2,h3⟩
  exact⟨l,hl,by rw[if_pos ⟨h1,h2⟩,h3]⟩
section
variable{s:dI}{ab:List bl}(h:e6 s ab=true)
include h
theorem DS:∀l∈ab,fk s l.atom=true:=by
 simp only[e6,ai,decide_eq_true_eq,cg] at h
 exact h.1.1.2
end
theorem FL{c:List Nat}{a b i k:Nat}(hi:i<c.length)(hk:k<c.length)(h:cl c i=cl c k):cl (gj c a b) i=cl (gj c a b) k:=by
 rw[x9 hi,x9 hk,h]
theorem rr{ae:List Term}:∀(eqs:List fF)(n:Nat)(c:List Nat)(aj:List Step){i k:Nat},i<c.length→k<c.length→cl c i=cl c k→(jd ae n eqs c aj).1.length=c.length∧cl (jd ae n eqs c aj).1 i=cl (jd ae n eqs c aj).1 k
 | [],_,_,_,_,_,_,_,h=>⟨rfl,h⟩
 | e::es,n,c,aj,i,k,hi,hk,h=>by
   rw[jd]
   split
   ·exact rr es (n+1) c aj hi hk h
   ·have:=rr (ae:=ae) es (n+1) (gj c (aH ae e.A) (aH ae e.B)) (aj++[⟨aH ae e.A,aH ae e.B,n⟩]) (i:=i) (k:=k) (by rw[fP];exact hi) (by rw[fP];exact hk) (FL hi hk h)
    rw[fP] at this
    exact this
theorem T7{c:List Nat}{a b:Nat}(ha:a<c.length)(hb:b<c.length):cl (gj c a b) a=cl (gj c a b) b:=(Ds ha hb).2 (.inr (.inl ⟨rfl,rfl⟩))
theorem wZ{ae:List Term}:∀(eqs:List fF)(n:Nat)(c:List Nat)(aj:List Step),c.length=ae.length→(∀e∈eqs,e.A∈ae∧e.B∈ae)→∀e∈eqs,cl (jd ae n eqs c aj).1 (aH ae e.A)=cl (jd ae n eqs c aj).1 (aH ae e.B)
 | [],_,_,_,_,_,e,he=>by simp at he
 | x::es,n,c,aj,hc,kF,e,he=>by
   have hx:=kF x (by simp)
   have pA:aH ae x.A<c.length:=by rw[hc];exact bz hx.1
   have pB:aH ae x.B<c.length:=by rw[hc];exact bz hx.2
   rw[jd]
   split
   ·rename_i hs
    rcases ax.1 he with rfl|he
    ·exact(rr es (n+1) c aj pA pB hs).2
    ·exact wZ es (n+1) c aj hc (fun y hy=>kF y (by simp[hy])) e he
   ·rcases ax.1 he with rfl|he
    ·exact(rr es (n+1) _ _ (by rw[fP];exact pA) (by rw[fP];exact pB) (T7 pA pB)).2
    ·exact wZ es (n+1) _ _ (by rw[fP];exact hc) (fun y hy=>kF y (by simp[hy])) e he
theorem s6{ae:List Term}:∀(eqs:List fF)(n:Nat)(c:List Nat)(aj:List Step),(jd ae n eqs c aj).1.length=c.length
 | [],_,_,_=>rfl
 | e::es,n,c,aj=>by
   rw[jd]
   split
   ·exact s6 es (n+1) c aj
   ·rw[s6 es (n+1),fP]
theorem Co{ae:List Term}:∀(f:Nat)(c:List Nat)(aj:List Step){i k:Nat},i<c.length→k<c.length→cl c i=cl c k→cl (kf ae f c aj).1 i=cl (kf ae f c aj).1 k
 | 0,_,_,_,_,_,_,h=>h
 | f+1,c,aj,i,k,hi,hk,h=>by
   rw[kf]
   split
   ·exact h
   ·exact Co f _ _ (by rw[fP];exact hi) (by rw[fP];exact hk) (FL hi hk h)
theorem Q3{ae:List Term}{eqs:List fF}(kF:∀e∈eqs,e.A∈ae∧e.B∈ae){e:fF}(he:e∈eqs):gh ae (closed ae eqs).1 e.A e.B=true:=by
 have hl:(given ae eqs).1.length=ae.length:=by rw[given,s6,fX]
 have h1:=kF e he
 refine decide_eq_true (Co _ _ _ (by rw[hl];exact bz h1.1) (by rw[hl];exact bz h1.2) ?_)
 exact wZ eqs 0 _ _ fX kF e he
end Go.Mod
