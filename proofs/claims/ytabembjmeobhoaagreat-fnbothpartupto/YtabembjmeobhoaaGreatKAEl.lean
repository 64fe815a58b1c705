/-
  Plain laws on literals that are decided: their terms and numbers stay the same where more is told of these. No program is walked here.
-/
import Derived.Test.YtabembjmeobhoaaGreatKAEk
import Derived.Test.YtabembjmeobhoaaGreatKAEb
set_option linter.unusedVariables false
set_option linter.unusedSimpArgs false
open Bool renaming and_eq_true→ai
open Classical renaming em→aa
open List renaming getElem?_eq_getElem→ah,drop_eq_getElem_cons→aj,getElem_mem→ak,drop_of_length_le→al,mem_cons→ay,map_cons→aQ,mem_append→aR,mem_cons_of_mem→bl,not_mem_nil→bn,getElem?_eq_none→bq,range→bt,mem_map→bD,length_take→bI,all_eq_true→cd,nodup_cons→cE,mem_append_left→dp,range'→dF,mem_range→fb,mem_of_mem_drop→fA,length_range→fO,getElem?_set_ne→kn,takeWhile_cons→nf,dropWhile_cons→ng,pairwise_cons→nS,getElem?_set_self→oQ
open Nat renaming lt_or_ge→bU
namespace Go.Mod
open Go.Eng
set_option maxRecDepth 100000
theorem UZ{l:List Term}{t:Term}(h:gN l)(ht:∀k∈t.kids,k∈l):gN (l++[t]):=by
 intro u hu k hk
 rcases aR.1 hu with hu|hu
 ·exact dp _ (h u hu k hk)
 ·simp only[ay,bn,or_false] at hu
  subst hu
  exact dp _ (ht k hk)
mutual
theorem Cr:∀(t:Term)(l:List Term),gN l→gN (de l t)
 | .mk n ks,l,h=>by
   have h1:=ox ks l h
   rw[de]
   split
   ·exact UZ h1 (rN ks l)
   ·exact h1
theorem ox:∀(ts:List Term)(l:List Term),gN l→gN (ba l ts)
 | [],l,h=>by rw[ba];exact h
 | t::ts,l,h=>by
   rw[ba]
   exact ox ts _ (Cr t l h)
end
mutual
theorem Dw:∀(t:Term)(l:List Term),l.Nodup→(de l t).Nodup
 | .mk n ks,l,h=>by
   have h1:=kT ks l h
   rw[de]
   split
   ·rename_i mr
    refine List.nodup_append.2 ⟨h1,by simp,fun x hx y hy e=>?_⟩
    simp only[ay,bn,or_false] at hy
    rw[e,hy] at hx
    have:=cK.2 hx
    omega
   ·exact h1
theorem kT:∀(ts:List Term)(l:List Term),l.Nodup→(ba l ts).Nodup
 | [],l,h=>by rw[ba];exact h
 | t::ts,l,h=>by
   rw[ba]
   exact kT ts _ (Dw t l h)
end
mutual
theorem JT:∀(t:Term)(l:List Term),gN l→t∈l→de l t=l
 | .mk n ks,l,h,ht=>by
   have h1:=tE ks l h fun k hk=>h _ ht k hk
   rw[de,h1]
   rw[if_neg (by have:=cK.2 ht;omega)]
theorem tE:∀(ts:List Term)(l:List Term),gN l→(∀t∈ts,t∈l)→ba l ts=l
 | [],l,_,_=>by rw[ba]
 | t::ts,l,h,ht=>by
   rw[ba,JT t l h (ht t (by simp))]
   exact tE ts l h fun u hu=>ht u (bl _ hu)
end
theorem FN(l:List Term)(xs ys:List Term):ba l (xs++ys)=ba (ba l xs) ys:=by
 rw[gh,gh,gh,List.foldl_append]
theorem Bz(a b:List bp):dI (a++b)=dI a++dI b:=by simp[dI]
theorem mQ{ab:List bp}{t:Term}:t∈dI ab↔∃l∈ab,t∈b8 l.atom:=by simp[dI]
structure hY(s:dG)(ab:List bp):Prop where
 sig:fG s=true
 fit:∀l∈ab,Fit (numsOf s ab) l
 n24:(aE ab).length≤24
 n4:(numsOf s ab).length≤4
section
variable{s:dG}{ab:List bp}
theorem Am(h:fa s ab=true):hY s ab:=by
 obtain⟨h1,h2,h3,h4,h5,h6,h7,h8⟩:=xf h
 exact⟨h5,h1,h8,h3⟩
variable(h:hY s ab)
include h
theorem hY.wf:∀l∈ab,cJ l.atom=true:=fun l hl=>(h.fit l hl).wf
theorem hY.all:∀t∈dI ab,isTerm t=true:=(iP h.wf).2
theorem hY.Ff:aE ab=ba [] (dI ab):=by rw[jC,iw h.all]
theorem hY.term:∀t∈aE ab,isTerm t=true:=by rw[jC];exact qH h.all
theorem hY.kids:gN (aE ab):=by rw[h.Ff];exact ox _ _ fun t ht=>by simp at ht
theorem hY.nodup:(aE ab).Nodup:=by rw[h.Ff];exact kT _ _ (by simp)
theorem hY.has:∀l∈ab,∀t∈b8 l.atom,t∈aE ab:=fun l hl t ht=>by
 rw[jC]
 exact yO h.all t (mQ.2 ⟨l,hl,ht⟩)
omit h in
theorem ow:∀t∈numsOf s ab,t∈aE ab:=fun t ht=>(List.mem_filter.1 ht).1
theorem hY.num:∀t∈numsOf s ab,isTerm t=true:=fun t ht=>h.term t (ow t ht)
theorem hY.rO:(numsOf s ab).Nodup:=h.nodup.filter _
theorem hY.eqs:∀e∈bc ab,e.A∈aE ab∧e.B∈aE ab∧(e.A∈numsOf s ab↔e.B∈numsOf s ab):=by
 intro e he
 simp only[bc,List.mem_filterMap] at he
 obtain⟨l,hl,e1⟩:=he
 split at e1
 ·rename_i hk
  simp only[Option.some.injEq] at e1
  have hm:b8 l.atom=[l.atom.A,l.atom.B]:=by simp[b8,hk.1]
  rw[←e1]
  exact⟨h.has l hl _ (by rw[hm];simp),h.has l hl _ (by rw[hm];simp),(h.fit l hl).eq hk.1⟩
 ·cases e1
theorem hY.same{l:bp}(hw:cJ l.atom=true)(kC:∀t∈b8 l.atom,t∈aE ab):aE (ab++[l])=aE ab:=by
 have lP:∀t∈dI (ab++[l]),isTerm t=true:=by
  rw[Bz]
  intro t ht
  rcases aR.1 ht with ht|ht
  ·exact h.all t ht
  ·obtain⟨l',hl',ht2⟩:=mQ.1 ht
   simp only[ay,bn,or_false] at hl'
   rw[hl'] at ht2
   exact(mW hw).2 t ht2
 rw[jC,iw lP,Bz,FN,←h.Ff]
 refine tE _ _ h.kids fun t ht=>?_
 obtain⟨l',hl',ht2⟩:=mQ.1 ht
 simp only[ay,bn,or_false] at hl'
 rw[hl'] at ht2
 exact kC t ht2
theorem hY.more{l:bp}(hf:Fit (numsOf s ab) l)(kC:∀t∈b8 l.atom,t∈aE ab):hY s (ab++[l])∧aE (ab++[l])=aE ab∧numsOf s (ab++[l])=numsOf s ab:=by
 have e1:=h.same hf.wf kC
 have e2:numsOf s (ab++[l])=numsOf s ab:=by unfold numsOf;rw[e1]
 refine⟨⟨h.sig,fun x hx=>?_,by rw[e1];exact h.n24,by rw[e2];exact h.n4⟩,e1,e2⟩
 rw[e2]
 rcases aR.1 hx with hx|hx
 ·exact h.fit x hx
 ·simp only[ay,bn,or_false] at hx
  rw[hx];exact hf
omit h in
theorem NG{a b:Term}:b8 (gP a b).atom=[a,b]:=rfl
omit h in
theorem H6{a b:Term}:∀t∈b8 (dz a b).atom,t=a∨t=b:=by
 intro t ht
 unfold dz at ht
 split at ht
 ·simp[b8] at ht;exact ht.symm
 ·simp[b8] at ht;exact ht
theorem hY.eq{a b:Term}(ha:a∈numsOf s ab)(hb:b∈numsOf s ab):hY s (ab++[gP a b])∧aE (ab++[gP a b])=aE ab∧numsOf s (ab++[gP a b])=numsOf s ab:=by
 refine h.more (Oe ha hb (h.num a ha) (h.num b hb)) fun t ht=>?_
 rw[NG] at ht
 simp only[ay,bn,or_false] at ht
 rcases ht with rfl|rfl
 ·exact ow _ ha
 ·exact ow _ hb
theorem hY.less{a b:Term}(ha:a∈numsOf s ab)(hb:b∈numsOf s ab)(ju:a≠b):hY s (ab++[dz a b])∧aE (ab++[dz a b])=aE ab∧numsOf s (ab++[dz a b])=numsOf s ab:=by
 refine h.more (E0 ha hb (h.num a ha) (h.num b hb) ju) fun t ht=>?_
 rcases H6 t ht with rfl|rfl
 ·exact ow _ ha
 ·exact ow _ hb
end
def jY(nums:List Term)(c:List Nat)(e:iA):List Nat:=if bM nums e.A<0 then c else fU c (aH nums e.A) (aH nums e.B)
def PS(nums:List Term)(eqs:List iA):List Nat:=eqs.foldl (jY nums) (bt nums.length)
theorem Ls{nums:List Term}{c d:List Nat}{e:iA}(hab:e.A∈nums↔e.B∈nums)(hc:c.length=nums.length)(hd:d.length=nums.length)(hr:∀i k,i<nums.length→k<nums.length→(cl c i=cl c k↔cl d i=cl d k)) :
 ∀i k,i<nums.length→k<nums.length→(cl (eU nums c e) i=cl (eU nums c e) k↔cl (jY nums d e) i=cl (jY nums d e) k):=by
 intro i k hi hk
 unfold eU jY
 rcases aa (e.A∈nums) with hA|hA
 ·have hB:=hab.1 hA
  have a0:=cK.2 hA
  have b0:=cK.2 hB
  have pa:=bx hA
  have pb:=bx hB
  rw[if_neg (by omega),if_neg (by omega),vo (by omega),vo (by omega),BT (by omega) (by omega),←hr i k hi hk,←hr i _ hi pa,←hr k _ hk pb,←hr i _ hi pb,←hr k _ hk pa]
  split<;>split<;>omega
 ·have a0:bM nums e.A<0:=by
   have:=(not_congr cK).2 hA
   omega
  rw[if_pos (.inl a0),if_pos a0]
  exact hr i k hi hk
theorem Jb{nums:List Term}:∀{eqs:List iA}{c d:List Nat},(∀e∈eqs,(e.A∈nums↔e.B∈nums))→c.length=nums.length→d.length=nums.length→(∀i k,i<nums.length→k<nums.length→(cl c i=cl c k↔cl d i=cl d k)) →
 ∀i k,i<nums.length→k<nums.length→(cl (eqs.foldl (eU nums) c) i=cl (eqs.foldl (eU nums) c) k↔cl (eqs.foldl (jY nums) d) i=cl (eqs.foldl (jY nums) d) k)
 | [],c,d,_,_,_,hr=>hr
 | e::eqs,c,d,he,hc,hd,hr=>by
   simp only[List.foldl_cons]
   refine Jb (fun x hx=>he x (bl _ hx)) (by rw[vp,hc]) ?_ (Ls (he e (by simp)) hc hd hr)
   unfold jY
   split
   ·exact hd
   ·rw[fC,hd]
theorem O6{nums:List Term}{ab:List bp}{i k:Nat}(he:∀e∈bc ab,(e.A∈nums↔e.B∈nums))(hi:i<nums.length)(hk:k<nums.length):decide (cl (PS nums (bc ab)) i=cl (PS nums (bc ab)) k)=linked nums ab i k:=by
 have:=Jb he (c:=bt nums.length) (d:=bt nums.length) (by simp) (by simp) (fun _ _ _ _=>Iff.rfl) i k hi hk
 unfold linked
 exact decide_eq_decide.2 this.symm
def lV(i k n:Nat):List (Nat×Nat):=(dF k (n-k)).map (fun k=>(i,k))++dC (i+1) n
theorem nF{i n:Nat}(h:i<n):dC i n=lV i (i+1) n:=Dv h
theorem oK{i k n:Nat}(h:k<n):lV i k n=(i,k)::lV i (k+1) n:=by
 unfold lV
 rw[nY h];rfl
theorem pM{i k n:Nat}(h:n≤k):lV i k n=dC (i+1) n:=by
 unfold lV
 rw[pE h];rfl
def uK{α:Type}(p:α→Bool)(l:List α)(i:Nat):Option Nat:=(dF i (l.length-i)).find? fun i=>match l[i]? with|none=>false|some x=>p x
theorem Gx{α:Type}(p:α→Bool)(l:List α):kI p l=uK p l 0:=by
 unfold kI uK
 rw[List.range_eq_range',Nat.sub_zero]
 rfl
theorem CY{α:Type}{p:α→Bool}{l:List α}{i:Nat}(h:i<l.length):uK p l i=if p l[i] then some i else uK p l (i+1):=by
 unfold uK
 rw[nY h,List.find?_cons,ah h]
 cases hp:p l[i]<;>simp[hp]
theorem E9{α:Type}{p:α→Bool}{l:List α}{i:Nat}(h:l.length≤i):uK p l i=none:=by
 unfold uK
 rw[pE h];rfl
theorem Az{α:Type}{p:α→Bool}{l:List α}{n:Nat}(h:kI p l=some n):∃hn:n<l.length,p l[n]=true:=by
 have h1:=List.find?_some h
 have h2:=fb.1 (List.mem_of_find?_eq_some h)
 refine⟨h2,?_⟩
 rw[ah h2] at h1
 exact h1
def atI:Option Nat→Int
 | none=>-1
 | some n=>n
def told(ab:List bp)(l:bp):Bool:=ab.any fun x=>(x.no == l.no)&&decide (x.atom=l.atom)
theorem C2{nums:List Term}{ab:List bp}{i k:Nat}:told ab (dz (nums.getD i aL) (nums.getD k aL))=eQ nums ab i k:=by
 unfold told eQ
 rw[FA]
 congr 1
 funext x
 cases x.no<;>rfl
def Ir(ab:List bp)(l:bp)(i:Nat):Bool:=(ab.drop i).any fun x=>(x.no == l.no)&&decide (x.atom=l.atom)
theorem N2{ab:List bp}{l:bp}{i:Nat}(h:i<ab.length):Ir ab l i=((ab[i].no == l.no)&&decide (ab[i].atom=l.atom)||Ir ab l (i+1)):=by
 unfold Ir
 rw[aj h,List.any_cons]
theorem R9{ab:List bp}{l:bp}{i:Nat}(h:ab.length≤i):Ir ab l i=false:=by
 unfold Ir
 rw[al h];rfl
def dZ(have_:Bool)(au nums:List Term)(c:List Nat)(ab:List bp)(i k:Nat):Bool:=!linked nums ab i k&&(if have_ then fY au c (nums.getD i aL) (nums.getD k aL) else(!eQ nums ab i k&& !eQ nums ab k i))
def qP(au nums:List Term)(eqs:List iA)(c:List Nat):List D:=[.dP (aP au),.dP (aP nums),.dP (gM eqs),.dP (bO c)]
attribute [go_sem] qP
theorem EF{α:Type}{p q:α→Bool}:∀{l:List α},(∀x∈l,p x=q x)→l.takeWhile p=l.takeWhile q∧l.dropWhile p=l.dropWhile q
 | [],_=>⟨rfl,rfl⟩
 | x::l,h=>by
   obtain⟨h1,h2⟩:=EF (l:=l) fun y hy=>h y (bl _ hy)
   rw[nf,nf,ng,ng,h x (by simp),h1,h2]
   exact⟨rfl,rfl⟩
def nz(rows:List Row)(r:Row):List Row:=
 match rows.dropWhile fun x=>dt x r with
 | []=>rows.takeWhile (fun x=>dt x r)++[r]
 | x::xs=>if x.name=r.name∧x.args=r.args then rows else rows.takeWhile (fun x=>dt x r)++r::x::xs
theorem GF{rows:List Row}{r:Row}(hr:dD r.args=true)(hrs:∀x∈rows,dD x.args=true):putRow rows r=nz rows r:=by
 have e:∀x∈rows,decide (e9 x r<0)=dt x r:=fun x hx=>by
  have h:=lz (hrs x hx) hr
  cases hl:dt x r
  ·exact decide_eq_false fun h1=>by rw[h.1 h1] at hl;cases hl
  ·exact decide_eq_true (h.2 hl)
 obtain⟨e1,e2⟩:=EF e
 have lg:∀x∈rows.dropWhile (fun x=>dt x r),x∈rows:=fun x hx=>(List.dropWhile_sublist _).subset hx
 unfold putRow nz
 simp only[e1,e2]
 cases hd:rows.dropWhile (fun x=>dt x r) with
 | nil=>rfl
 | cons x xs=>
   rw[hd] at lg
   have h:=ql (hrs x (lg x (by simp))) hr
   simp only
   rcases aa (e9 x r=0) with hc|hc
   ·rw[if_pos hc,if_pos (h.1 hc)]
   ·rw[if_neg hc,if_neg fun h1=>hc (h.2 h1)]
theorem FR{rows:List Row}{r x:Row}(h:x∈putRow rows r):x∈rows∨x=r:=by
 unfold putRow at h
 have hs1:∀x∈rows.takeWhile (fun x=>decide (e9 x r<0)),x∈rows:=fun x hx=>(List.takeWhile_sublist _).subset hx
 have hs2:∀x∈rows.dropWhile (fun x=>decide (e9 x r<0)),x∈rows:=fun x hx=>(List.dropWhile_sublist _).subset hx
 simp only at h
 split at h
 ·rcases aR.1 h with h|h
  ·exact .inl (hs1 _ h)
  ·exact .inr (by simpa using h)
 ·rename_i y ys hd
  rw[hd] at hs2
  split at h
  ·exact .inl h
  ·rcases aR.1 h with h|h
   ·exact .inl (hs1 _ h)
   ·rcases ay.1 h with h|h
    ·exact .inr h
    ·exact .inl (hs2 _ h)
theorem GU(rows:List Row)(r:Row):(putRow rows r).length≤rows.length+1:=by
 unfold putRow
 have h:=congrArg List.length (List.takeWhile_append_dropWhile (p:=fun x=>decide (e9 x r<0)) (l:=rows))
 rw[List.length_append] at h
 simp only
 split
 ·rename_i hd
  rw[hd] at h
  simp at h⊢
  omega
 ·rename_i y ys hd
  rw[hd] at h
  split
  ·omega
  ·simp at h⊢
   omega
def rD(p:Row→Bool)(rows:List Row)(i:Nat):Prop:=rows.takeWhile p=rows.take i++(rows.drop i).takeWhile p∧rows.dropWhile p=(rows.drop i).dropWhile p
theorem rD.zero(p:Row→Bool)(rows:List Row):rD p rows 0:=⟨by simp,by simp⟩
theorem rD.step{p:Row→Bool}{rows:List Row}{i:Nat}(h:rD p rows i)(hi:i<rows.length)(hp:p rows[i]=true):rD p rows (i+1):=by
 obtain⟨h1,h2⟩:=h
 rw[aj hi] at h1 h2
 rw[nf,if_pos hp] at h1
 rw[ng,if_pos hp] at h2
 refine⟨?_,h2⟩
 rw[h1,List.take_add_one,ah hi,List.append_assoc]
 rfl
theorem rD.stop{p:Row→Bool}{rows:List Row}{i:Nat}(h:rD p rows i)(hi:i<rows.length)(hp:p rows[i]=false):rows.takeWhile p=rows.take i∧rows.dropWhile p=rows[i]::rows.drop (i+1):=by
 obtain⟨h1,h2⟩:=h
 rw[aj hi] at h1 h2
 rw[nf,if_neg (by rw[hp];simp),List.append_nil] at h1
 rw[ng,if_neg (by rw[hp];simp)] at h2
 exact⟨h1,h2⟩
theorem rD.done{p:Row→Bool}{rows:List Row}{i:Nat}(h:rD p rows i)(hi:rows.length≤i):rows.takeWhile p=rows∧rows.dropWhile p=[]:=by
 obtain⟨h1,h2⟩:=h
 rw[al hi] at h1 h2
 rw[List.take_of_length_le hi] at h1
 exact⟨by simpa using h1,h2⟩
theorem Vl{au nums:List Term}{c:List Nat}{aB:List Rat}{t:Term}(hc:∀x∈c,x≤1000)(hv:∀x∈aB,bV x=true):bV (iM au nums c aB t)=true:=by
 have hle:cl c (aH au t)≤1000:=by
  rcases bU (aH au t) c.length with h1|h1
  ·exact hc _ (y0 h1)
  ·rw[X6 h1];omega
 unfold iM
 split
 ·exact qy (by omega) (by omega)
 ·rcases bU (aH nums t) aB.length with h1|h1
  ·exact hv _ (mw h1)
  ·rw[List.getD_eq_getElem?_getD,bq h1]
   exact qy (by omega) (by omega)
theorem rE{au nums:List Term}{c:List Nat}{aB:List Rat}{t:Term}(hc:∀x∈c,x≤1000)(hv:∀x∈aB,bV x=true):dD (iB au nums c aB t).args=true:=by
 unfold dD
 refine cd.2 fun x hx=>?_
 simp only[iB,bD] at hx
 obtain⟨k,_,rfl⟩:=hx
 exact Vl hc hv
theorem A8{list:List ia}(h:(bR list).code=0):(bR list).aB.length=4∧∀x∈(bR list).aB,bV x=true:=by
 have lP:∀v,kQ list v=true→v.length=4∧∀x∈v,bV x=true:=fun v hv=>by
  simp only[kQ,qt,ai,decide_eq_true_eq,cd] at hv
  exact hv.2.1
 have hend:∀s0 s1 s2 s3 rows,(ie list s0 s1 s2 s3 rows).code=0→(ie list s0 s1 s2 s3 rows).aB.length=4∧∀x∈(ie list s0 s1 s2 s3 rows).aB,bV x=true:=fun s0 s1 s2 s3 rows h=>by
  unfold ie at h⊢
  split at h
  ·split at h<;>simp at h
  ·split at h
   ·simp at h
   ·split at h
    ·rename_i hf
     rw[if_pos hf]
     exact lP _ hf
    ·simp at h
 unfold bR at h⊢
 split at h
 ·rename_i hs
  rw[if_pos hs]
  split at h
  ·simp at h
  ·split at h
   ·simp at h
   ·split at h
    ·simp at h
    ·split at h
     ·simp at h
     ·exact hend _ _ _ _ _ h
 ·simp at h
theorem My{t:Term}(h:isTerm t=true):t.kids.length≤2:=by
 have h1:=iy h
 cases t with
 | mk n ks=>
   simp only[bL,ai,decide_eq_true_eq] at h1
   exact h1.2.1
theorem AX{a:Atom}(h:cJ a=true):a.times.length≤4:=by
 rcases aa (a.kind=1) with h1|h1
 ·simp only[cJ,if_pos h1,ai,decide_eq_true_eq] at h
  omega
 ·rcases aa (a.kind=2) with h2|h2
  ·have:=mu h h2
   omega
  ·simp[cJ,h1,h2] at h
section
variable{s:dG}{ab:List bp}(h:hY s ab)
include h
theorem hY.LV:∀t∈aE ab,t.kids.length≤1000:=fun t ht=>by
 have:=My (h.term t ht)
 omega
theorem hY.TJ:(aE ab).length≤1000:=by
 have:=h.n24
 omega
theorem hY.zT:∀e∈bc ab,e.A∈aE ab∧e.B∈aE ab:=fun e he=>⟨(h.eqs e he).1,(h.eqs e he).2.1⟩
theorem hY.TT:∀e∈bc ab,(e.A∈numsOf s ab↔e.B∈numsOf s ab):=fun e he=>(h.eqs e he).2.2
theorem hY.Mt:(closed (aE ab) (bc ab)).1.length=(aE ab).length:=MO (mI h.zT)
theorem hY.Lp:∀x∈(closed (aE ab) (bc ab)).1,x≤1000:=by
 have hk:=mI h.zT
 have h1:=uE hk _ (Nat.le_refl _)
 rw[←hk.2] at h1
 intro x hx
 have h2:=TA hx
 have h3:(bt (aE ab).length).sum≤(bt (aE ab).length).length*23:=pj fun x hx=>by
  have:=fb.1 hx
  have:=h.n24
  omega
 have h4:(bt (aE ab).length).length*23≤24*23:=Nat.mul_le_mul_right _ (by simpa using h.n24)
 omega
theorem hY.Ks:∀l∈ab,l.atom.kind=1→l.atom.A∈aE ab∧l.atom.B∈aE ab:=fun l hl hk=>by
 have hm:b8 l.atom=[l.atom.A,l.atom.B]:=by simp[b8,hk]
 exact⟨h.has l hl _ (by rw[hm];simp),h.has l hl _ (by rw[hm];simp)⟩
end
theorem zJ(s:dG)(ab:List bp):(aE ab).filter (dk s)=numsOf s ab:=rfl
theorem uO{au nums:List Term}{c:List Nat}{ab:List bp}{i k:Nat}(h:dZ false au nums c ab i k=true):qJ nums ab i k=true:=h
theorem qV{v:Bool}{au nums:List Term}{c:List Nat}{ab:List bp}{i k:Nat}(h:dZ v au nums c ab i k=true):linked nums ab i k=false:=by
 unfold dZ at h
 cases hl:linked nums ab i k
 ·rfl
 ·rw[hl] at h;simp at h
def Next(s:dG)(ab:List bp)(l:bp):Prop:=hY s (ab++[l])∧aE (ab++[l])=aE ab∧numsOf s (ab++[l])=numsOf s ab∧room (numsOf s ab) (ab++[l])<room (numsOf s ab) ab
theorem Ec{s:dG}{ab:List bp}(h:hY s ab){i k:Nat}(h1:i<k)(h2:k<(numsOf s ab).length)(hl:linked (numsOf s ab) ab i k=false):Next s ab (gP ((numsOf s ab).getD i aL) ((numsOf s ab).getD k aL)):=by
 obtain⟨g1,g2,g3⟩:=h.eq (a:=(numsOf s ab).getD i aL) (b:=(numsOf s ab).getD k aL) (mw (by omega)) (mw h2)
 exact⟨g1,g2,g3,XO h.rO h1 h2 hl⟩
theorem AS{s:dG}{ab:List bp}(h:hY s ab){i k:Nat}(h1:i<k)(h2:k<(numsOf s ab).length):(numsOf s ab).getD i aL≠(numsOf s ab).getD k aL:=fun e=>by
 have a1:=jI h.rO (by omega:i<(numsOf s ab).length)
 have a2:=jI h.rO h2
 rw[eW (by omega),eW h2] at e
 rw[e] at a1
 omega
theorem Sb{s:dG}{ab:List bp}(h:hY s ab){i k:Nat}(h1:i<k)(h2:k<(numsOf s ab).length)(hl:qJ (numsOf s ab) ab i k=true):Next s ab (dz ((numsOf s ab).getD i aL) ((numsOf s ab).getD k aL))∧Next s ab (dz ((numsOf s ab).getD k aL) ((numsOf s ab).getD i aL)):=by
 have ju:=AS h h1 h2
 have hi:=mw (d:=aL) (by omega:i<(numsOf s ab).length)
 have hk:=mw (d:=aL) h2
 obtain⟨g1,g2,g3⟩:=h.less hi hk ju
 obtain⟨f1,f2,f3⟩:=h.less hk hi (Ne.symm ju)
 exact⟨⟨g1,g2,g3,Jd h1 h2 hl (.inl rfl)⟩,⟨f1,f2,f3,Jd h1 h2 hl (.inr rfl)⟩⟩
theorem wj{s:dG}{ab:List bp}(h:hY s ab){i k:Nat}(h1:i<k)(h2:k<(numsOf s ab).length)(hl:qJ (numsOf s ab) ab i k=true):∀l∈fJ ((numsOf s ab).getD i aL) ((numsOf s ab).getD k aL),Next s ab l:=by
 have hlk:linked (numsOf s ab) ab i k=false:=qV (v:=false) (au:=[]) (c:=[]) hl
 obtain⟨n1,n2⟩:=Sb h h1 h2 hl
 intro l hm
 simp only[fJ,ay,bn,or_false] at hm
 rcases hm with rfl|rfl|rfl
 ·exact Ec h h1 h2 hlk
 ·exact n1
 ·exact n2
theorem pr{run:List bp→zt}{a b:Term}{l:List bp}{ls:List (List bp)}{out:List Case}:qi run a b (l::ls) out=if(run l).code=1 then qi run a b ls (out++[(run l).case]) else⟨(run l).model,sF,(run l).code⟩:=rfl
theorem rm{run:List bp→zt}{a b:Term}{out:List Case}:qi run a b [] out=⟨l7,.mk 4 0 vM [] a b out,1⟩:=rfl
theorem Ve(n:Nat):atI (some n)=n:=rfl
theorem UJ:atI none = -1:=rfl
section
variable{s:dG}{au nums:List Term}{f:Nat}{ab:List bp}
theorem xl(h:12<(bc ab).length):jw s au nums (f+1) ab=uz:=by
 simp only[jw,if_pos h]
variable(h:¬12<(bc ab).length)
include h
theorem uh{n:Nat}(hc:kI (jm au (closed au (bc ab)).1) ab=some n):jw s au nums (f+1) ab=⟨l7,.mk 1 n (lX au (closed au (bc ab)).2 (ab.getD n DN).atom.A (ab.getD n DN).atom.B) [] aL aL [],1⟩:=by
 simp only[jw,if_neg h,hc]
variable(hc:kI (jm au (closed au (bc ab)).1) ab=none)
include hc
theorem wy(hf:(bR (dY nums ab)).code=1):jw s au nums (f+1) ab=⟨l7,.mk 2 0 vM (bR (dY nums ab)).times aL aL [],1⟩:=by
 simp only[jw,if_neg h,hc,if_pos hf]
theorem v8(hf:(bR (dY nums ab)).code≠1)(hf2:(bR (dY nums ab)).code≠0):jw s au nums (f+1) ab=uz:=by
 simp only[jw,if_neg h,hc,if_neg hf,if_pos hf2]
variable(hf:(bR (dY nums ab)).code=0)
include hf
theorem xq{q:Nat×Nat}(hp:b9 nums.length (dZ true au nums (closed au (bc ab)).1 ab)=some q):jw s au nums (f+1) ab=AM (lX au (closed au (bc ab)).2 (nums.getD q.1 aL) (nums.getD q.2 aL)) (jw s au nums f (ab++[gP (nums.getD q.1 aL) (nums.getD q.2 aL)])):=by
 have hp':b9 nums.length (fun i k=>!linked nums ab i k&&fY au (closed au (bc ab)).1 (nums.getD i aL) (nums.getD k aL))=some q:=hp
 have h1:¬ (bR (dY nums ab)).code=1:=by omega
 simp only[jw,if_neg h,hc,if_neg h1,hf,ne_eq,not_true_eq_false,if_false,hp']
 rw[if_neg (by decide)]
variable(hp:b9 nums.length (dZ true au nums (closed au (bc ab)).1 ab)=none)
include hp
theorem rq{q:Nat×Nat}(hq:b9 nums.length (dZ false au nums (closed au (bc ab)).1 ab)=some q):jw s au nums (f+1) ab=qi (jw s au nums f) (nums.getD q.1 aL) (nums.getD q.2 aL) ((fJ (nums.getD q.1 aL) (nums.getD q.2 aL)).map fun l=>ab++[l]) []:=by
 have hp':b9 nums.length (fun i k=>!linked nums ab i k&&fY au (closed au (bc ab)).1 (nums.getD i aL) (nums.getD k aL))=none:=hp
 have hq':b9 nums.length (fun i k=>!linked nums ab i k&&(!eQ nums ab i k&& !eQ nums ab k i))=some q:=hq
 have h1:¬ (bR (dY nums ab)).code=1:=by omega
 simp only[jw,if_neg h,hc,if_neg h1,hf,ne_eq,not_true_eq_false,if_false,hp',hq']
 rw[if_neg (by decide)]
variable(hq:b9 nums.length (dZ false au nums (closed au (bc ab)).1 ab)=none)
include hq
theorem tN:jw s au nums (f+1) ab=if eE s ⟨gY au nums (closed au (bc ab)).1 (bR (dY nums ab)).aB⟩ ab=true then⟨⟨gY au nums (closed au (bc ab)).1 (bR (dY nums ab)).aB⟩,sF,0⟩ else uz:=by
 have hp':b9 nums.length (fun i k=>!linked nums ab i k&&fY au (closed au (bc ab)).1 (nums.getD i aL) (nums.getD k aL))=none:=hp
 have hq':b9 nums.length (fun i k=>!linked nums ab i k&&(!eQ nums ab i k&& !eQ nums ab k i))=none:=hq
 have h1:¬ (bR (dY nums ab)).code=1:=by omega
 simp only[jw,if_neg h,hc,if_neg h1,hf,ne_eq,not_true_eq_false,if_false,hp',hq']
 rw[if_neg (by decide)]
end
def yk(e:Edge):List D:=[.val (.int .i64 (e.step:Int)),.val (.bool e.back)]
def dh(l:List Edge):List (List D):=l.map yk
theorem K6(l:List Edge):(dh l).length=l.length:=by simp[dh]
theorem uP{l:List Edge}{i:Nat}(h:i<l.length):row (dh l) i=yk l[i]:=by simp[dh,row,List.getD,ah h]
theorem JH(l:List Edge):∀y∈dh l,y.length=2:=by
 intro y hy
 obtain⟨t,_,rfl⟩:=bD.1 hy
 rfl
theorem qZ(a b:List Edge):dh a++dh b=dh (a++b):=by simp[dh]
theorem oe:dh []=[]:=rfl
theorem p9(n:Edge)(l:List Edge):dh (n::l)=yk n::dh l:=rfl
theorem J6{l:List Edge}{i:Nat}{e:Edge}:(dh l).set i (yk e)=dh (l.set i e):=by simp[dh,List.map_set]
attribute [go_sem] K6 uP oe yk
structure KQ{α:Type}(l ys:List α)(i:Nat):Prop where
 len:ys.length=l.length
 at_:∀k,k<l.length→ys[k]?=if k<i∨l.length-1-k<i then l[l.length-1-k]? else l[k]?
theorem KQ.zero{α:Type}(l:List α):KQ l l 0:=⟨rfl,fun k _=>by simp⟩
theorem KQ.step{α:Type}{l ys:List α}{i j:Nat}(h:KQ l ys i)(hij:i<j)(hj:i+j+1=l.length)(hi':i<ys.length)(hj':j<ys.length):KQ l ((ys.set i ys[j]).set j ys[i]) (i+1):=by
 have dy:=h.len
 refine⟨by simp[dy],fun k hk=>?_⟩
 have e1:ys[j]?=some ys[j]:=ah hj'
 have e2:ys[i]?=some ys[i]:=ah hi'
 have a1:=h.at_ j (by omega)
 have a2:=h.at_ i (by omega)
 have a3:=h.at_ k hk
 rw[if_neg (by omega)] at a1 a2
 rw[e1] at a1
 rw[e2] at a2
 rcases Nat.lt_trichotomy k j with h1|h1|h1
 ·rw[kn (by omega)]
  rcases aa (k=i) with h2|h2
  ·subst h2
   rw[oQ hi',if_pos (.inl (by omega)),a1]
   congr 1
   omega
  ·rw[kn (by omega),a3]
   rcases aa (k<i∨l.length-1-k<i) with h3|h3
   ·rw[if_pos h3,if_pos (by omega)]
   ·rw[if_neg h3,if_neg (by omega)]
 ·subst h1
  rw[oQ (by simpa using hj'),if_pos (.inr (by omega)),a2]
  congr 1
  omega
 ·rw[kn (by omega),kn (by omega),a3,if_pos (by omega),if_pos (by omega)]
theorem KQ.done{α:Type}{l ys:List α}{i:Nat}(h:KQ l ys i)(hi:l.length≤2*i+1):ys=l.reverse:=by
 apply List.ext_getElem?
 intro k
 rcases bU k l.length with h1|h1
 ·rw[h.at_ k h1,List.getElem?_reverse h1]
  rcases aa (k<i∨l.length-1-k<i) with h2|h2
  ·rw[if_pos h2]
  ·rw[if_neg h2]
   congr 1
   omega
 ·rw[bq (by rw[h.len];exact h1),bq (by simpa using h1)]
def zN(cf:List (Nat×Edge)):List (Int×Value):=(iJ cf).map fun(v:Nat)=>((v:Int),Value.bool true)
def oz(cf:List (Nat×Edge)):List (Int×Value):=(cf.drop 1).map fun p=>((p.1:Int),Value.agg #[.int .i64 (p.2.step:Int),.bool p.2.back])
theorem zW(a b:List (Nat×Edge)):zN (a++b)=zN a++zN b:=by simp[zN,iJ]
theorem sU{a:List (Nat×Edge)}{p:Nat×Edge}(h:0<a.length):oz (a++[p])=oz a++[((p.1:Int),Value.agg #[.int .i64 (p.2.step:Int),.bool p.2.back])]:=by
 unfold oz
 rw[List.drop_append_of_le_length (by omega),List.map_append]
 rfl
theorem Ib:∀{l:List Nat}{n:Nat},n∈l→kp (l.map fun(v:Nat)=>((v:Int),Value.bool true)) (n:Int)=some (.bool true)
 | v::l,n,h=>by
   simp only[aQ,kp]
   rcases aa ((n:Int)=(v:Int)) with h1|h1
   ·rw[if_pos h1]
   ·rw[if_neg h1]
    rcases ay.1 h with h|h
    ·exact absurd (by rw[h]) h1
    ·exact Ib h
theorem GY:∀{l:List Nat}{n:Nat},n∉l→kp (l.map fun(v:Nat)=>((v:Int),Value.bool true)) (n:Int)=none
 | [],_,_=>rfl
 | v::l,n,h=>by
   simp only[aQ,kp]
   rw[if_neg (fun e=>h (by simp[show n=v by omega]))]
   exact GY fun h1=>h (bl _ h1)
theorem zm{cf:List (Nat×Edge)}{n:Nat}(h:n∈iJ cf):kp (zN cf) (n:Int)=some (.bool true):=Ib h
theorem q9{cf:List (Nat×Edge)}{n:Nat}(h:n∉iJ cf):kp (zN cf) (n:Int)=none:=GY h
theorem Aa:∀{l:List (Nat×Edge)}{j:Nat}{v:Nat}{e:Edge},(l.map Prod.fst).Nodup→l[j]?=some (v,e)→kp (l.map fun p=>((p.1:Int),Value.agg #[.int .i64 (p.2.step:Int),.bool p.2.back])) (v:Int)=some (.agg #[.int .i64 (e.step:Int),.bool e.back])
 | [],j,v,e,_,h=>by simp at h
 | p::l,0,v,e,_,h=>by
   simp only[List.getElem?_cons_zero,Option.some.injEq] at h
   subst h
   simp[kp]
 | p::l,j+1,v,e,hn,h=>by
   simp only[List.getElem?_cons_succ] at h
   simp only[aQ,cE] at hn
   have hm:v∈l.map Prod.fst:=bD.2 ⟨(v,e),List.mem_of_getElem? h,rfl⟩
   simp only[aQ,kp]
   rw[if_neg (fun e1=>hn.1 (by rw[show p.1=v by omega];exact hm))]
   exact Aa hn.2 h
theorem H2{cf:List (Nat×Edge)}(hn:(iJ cf).Nodup){j v:Nat}{e:Edge}(hj:0<j)(h:cf[j]?=some (v,e)):kp (oz cf) (v:Int)=some (.agg #[.int .i64 (e.step:Int),.bool e.back]):=by
 refine Aa (j:=j-1) ?_ ?_
 ·rw[List.map_drop]
  exact hn.sublist (List.drop_sublist _ _)
 ·rw[List.getElem?_drop,show 1+(j-1)=j by omega]
  exact h
theorem r7{cf:List (Nat×Edge)}{n:Nat}(h:n∉iJ cf):kp (oz cf) (n:Int)=none:=by
 have key:∀{l:List (Nat×Edge)},(∀p∈l,p.1≠n)→kp (l.map fun p=>((p.1:Int),Value.agg #[.int .i64 (p.2.step:Int),.bool p.2.back])) (n:Int)=none:=by
  intro l
  induction l with
  | nil=>intro _;rfl
  | cons p l ih=>
    intro hl
    simp only[aQ,kp]
    rw[if_neg (fun e=>hl p (by simp) (by omega))]
    exact ih fun q hq=>hl q (bl _ hq)
 refine key fun p hp e=>h ?_
 rw[←e]
 exact bD.2 ⟨p,fA hp,rfl⟩
def y8(af:List Step)(k:Nat)(cf:List (Nat×Edge))(v:Nat):Prop:=∀j,j<k→(vA af j=v→vB af j∈iJ cf)∧(vB af j=v→vA af j∈iJ cf)
theorem LZ(af:List Step)(cf:List (Nat×Edge))(v:Nat):y8 af 0 cf v:=fun j hj=>by omega
theorem N6{af:List Step}{n:Nat}{cf:List (Nat×Edge)}{v:Nat}(h:y8 af n cf v):Seen af n cf v:=h
theorem n6{af:List Step}{k:Nat}{cf:List (Nat×Edge)}{v:Nat}(h:y8 af k cf v)(h1:vA af k=v→vB af k∈iJ cf)(h2:vB af k=v→vA af k∈iJ cf):y8 af (k+1) cf v:=fun j hj=>by
 rcases bU j k with h3|h3
 ·exact h j h3
 ·obtain rfl:j=k:=by omega
  exact⟨h1,h2⟩
theorem CN{af:List Step}{k:Nat}{a b:List (Nat×Edge)}{v:Nat}(h:y8 af k a v):y8 af k (a++b) v:=Jl (n:=k) h
theorem I5:∀(rs:List Row)(t:Row),rs.takeWhile (fun x=>decide (e9 x t<0))=rs.take (cut rs t)∧rs.dropWhile (fun x=>decide (e9 x t<0))=rs.drop (cut rs t)
 | [],_=>by simp[cut]
 | r::rs,t=>by
   obtain⟨h1,h2⟩:=I5 rs t
   rcases aa (e9 r t<0) with h|h
   ·simp[cut,h,h1,h2]
   ·simp[cut,h]
theorem rM(rs:List Row)(t:Row):putRow rs t=if found rs t then rs else rs.take (cut rs t)++t::rs.drop (cut rs t):=by
 obtain⟨h1,h2⟩:=I5 rs t
 unfold putRow found
 simp only[h1,h2]
 rcases bU (cut rs t) rs.length with h|h
 ·rw[aj h,ah h]
  rcases aa (e9 rs[cut rs t] t=0) with hc|hc
  ·simp[hc]
  ·simp[hc]
 ·rw[al h,bq h]
  simp
theorem yu{a b:Rat}(ha:bV a=true)(hb:bV b=true)(h:a≠b):cQ a b=true∨cQ b a=true:=by
 rw[fv ha hb,fv hb ha]
 have h1:a.N*b.D≠b.N*a.D:=fun e=>h (BH ha hb e)
 omega
theorem xg:∀{as bs:List Rat},dD as=true→dD bs=true→as.length=bs.length→as≠bs→fZ as bs=true∨fZ bs as=true
 | [],[],_,_,_,h=>absurd rfl h
 | [],b::bs,_,_,h,_=>by simp at h
 | a::as,[],_,_,h,_=>by simp at h
 | a::as,b::bs,h1,h2,h3,h4=>by
   simp only[dD,List.all_cons,ai] at h1 h2
   simp only[fZ]
   rcases aa (a=b) with h|h
   ·rw[if_pos h,if_pos h.symm]
    exact xg h1.2 h2.2 (by simpa using h3) fun e=>h4 (by rw[h,e])
   ·rw[if_neg h,if_neg (Ne.symm h)]
    exact yu h1.1 h2.1 h
theorem NK{a b:nh}(h:a≠b):gr a b=true∨gr b a=true:=by
 cases h1:gr a b
 ·cases h2:gr b a
  ·exact absurd (qu.1 (by simp[nH,h1,h2])) h
  ·exact .inr rfl
 ·exact .inl rfl
theorem Hr{a b:Row}(ha:dD a.args=true)(hb:dD b.args=true)(h:¬ (a.name=b.name∧a.args=b.args)):dt a b=true∨dt b a=true:=by
 unfold dt
 rcases aa (a.name=b.name) with h1|h1
 ·rw[if_pos h1,if_pos h1.symm]
  rcases aa (a.args.length=b.args.length) with h2|h2
  ·rw[if_pos h2,if_pos h2.symm]
   exact xg ha hb h2 fun e=>h ⟨h1,e⟩
  ·rw[if_neg h2,if_neg (Ne.symm h2)]
   rcases bU a.args.length b.args.length with h3|h3
   ·exact .inl (decide_eq_true h3)
   ·exact .inr (decide_eq_true (by omega))
 ·rw[if_neg h1,if_neg (Ne.symm h1)]
  exact NK h1
theorem Jf{rs:List Row}{t:Row}(h1:∀r∈rs,dD r.args=true)(h2:rs.Pairwise (fun a b=>dt a b=true))(ht:dD t.args=true):lq rs t:=by
 refine List.Pairwise.imp_of_mem ?_ h2
 intro a b ha hb hab hbt
 have wa:=h1 a ha
 have wb:=h1 b hb
 rw[lz wb ht] at hbt
 rw[lz wa ht]
 exact qa wa wb ht hab hbt
theorem MU{rs:List Row}{t:Row}(h1:∀r∈rs,dD r.args=true)(h2:rs.Pairwise (fun a b=>dt a b=true))(ht:dD t.args=true):(putRow rs t).Pairwise (fun a b=>dt a b=true):=by
 have hm:=Jf h1 h2 ht
 have hc:=fun k h=>th hm k h
 rw[rM]
 cases hf:found rs t
 ·rw[if_neg (by simp)]
  have hsplit:=h2
  rw[←List.take_append_drop (cut rs t) rs] at hsplit
  obtain⟨p1,p2,p3⟩:=List.pairwise_append.1 hsplit
  have hlo:∀x∈rs.take (cut rs t),dt x t=true:=fun x hx=>by
   obtain⟨k,hk,rfl⟩:=List.mem_iff_getElem.1 hx
   have hk2:k<cut rs t:=by rw[bI] at hk;omega
   have hk3:k<rs.length:=by rw[bI] at hk;omega
   rw[List.getElem_take]
   exact(lz (h1 _ (ak hk3)) ht).1 ((hc k hk3).1 hk2)
  have hhi:∀y∈rs.drop (cut rs t),dt t y=true:=fun y hy=>by
   rcases bU (cut rs t) rs.length with h|h
   ·have w0:=h1 _ (ak h)
    have n1:¬e9 rs[cut rs t] t<0:=fun e=>by
     have:=(hc _ h).2 e
     omega
    have n2:e9 rs[cut rs t] t≠0:=fun e=>by
     rw[found,ah h] at hf
     simp[e] at hf
    have h0:dt t rs[cut rs t]=true:=by
     rcases Hr w0 ht (fun e=>n2 ((ql w0 ht).2 e)) with h3|h3
     ·exact absurd ((lz w0 ht).2 h3) n1
     ·exact h3
    rw[aj h] at hy p2
    rcases ay.1 hy with rfl|hy2
    ·exact h0
    ·exact qa ht w0 (h1 _ (fA hy2)) h0 ((nS.1 p2).1 y hy2)
   ·rw[al h] at hy
    simp at hy
  refine List.pairwise_append.2 ⟨p1,nS.2 ⟨hhi,p2⟩,fun x hx y hy=>?_⟩
  rcases ay.1 hy with rfl|hy
  ·exact hlo x hx
  ·exact p3 x hx y hy
 ·rw[if_pos rfl]
  exact h2
def u5(b:List Int)(s:dG)(p:Int):bp×Int:=(⟨(nN b s p).1,decide (da b (nN b s p).2 3=0)⟩,(nN b s p).2+1)
theorem Ou{b:List Int}(hb:x7 b){s:dG}(h:fE s){p:Int}(hp:0≤p):p≤(u5 b s p).2∧(u5 b s p).2≤p+61:=by
 have h1:=Qf hb h hp
 simp only[u5]
 omega
def vZ(b:List Int)(s:dG):Nat→List bp→Int→List bp×Int
 | 0,out,p=>(out,p)
 | n+1,out,p=>vZ b s n (if fa s (out++[(u5 b s p).1]) then out++[(u5 b s p).1] else out) (u5 b s p).2
def E2(b:List Int)(s:dG):Nat→List bp→Int→List bp×Int
 | 0,out,p=>(out,p)
 | n+1,out,p=>E2 b s n (out++[(u5 b s p).1]) (u5 b s p).2
def wF(b:List Int)(s:dG)(p:Int):List bp×Int:=vZ b s (jS b p [3,4,5,2,6,1,0]).toNat [] (p+1)
def F4(b:List Int)(p:Int):dG×List bp×Int:=
 let g:=NB b p
 let r:=wF b g.1 g.2
 let k:=da b r.2 48
 if k=0 then(g.1,r.1++[⟨(CU b g.1 (r.2+1)).1,false⟩],(CU b g.1 (r.2+1)).2) else
 if k=1 then(g.1,(E2 b g.1 (7-r.1.length) r.1 (r.2+1)).1,(E2 b g.1 (7-r.1.length) r.1 (r.2+1)).2) else
 if k=2 then((ji b (ji b g.1 (r.2+1)).1 (ji b g.1 (r.2+1)).2).1,r.1,(ji b (ji b g.1 (r.2+1)).1 (ji b g.1 (r.2+1)).2).2) else
 if k=3 then(g.1,r.1++[DN],r.2+1) else(g.1,r.1,r.2+1)
def Nc(b:List Int):dG×List bp:=((F4 b 0).1,(F4 b 0).2.1)
theorem QD{b:List Int}(hb:x7 b){s:dG}(h:fE s):∀(n:Nat)(out:List bp)(p:Int),0≤p→p≤(vZ b s n out p).2∧(vZ b s n out p).2≤p+n*61∧(vZ b s n out p).1.length≤out.length+n
 | 0,out,p,_=>by simp[vZ]
 | n+1,out,p,hp=>by
   have h1:=Ou hb h hp
   have h2:=QD hb h n (if fa s (out++[(u5 b s p).1]) then out++[(u5 b s p).1] else out) (u5 b s p).2 (by omega)
   have h3:(if fa s (out++[(u5 b s p).1]) then out++[(u5 b s p).1] else out).length≤out.length+1:=by
    split
    ·simp
    ·omega
   simp only[vZ]
   omega
theorem XU{b:List Int}(hb:x7 b){s:dG}(h:fE s){p:Int}(hp:0≤p):p≤(wF b s p).2∧(wF b s p).2≤p+500∧(wF b s p).1.length≤6:=by
 have hm:=wM hb (p:=p) (l:=[3,4,5,2,6,1,0]) hp (by simp)
 simp only[ay,bn,or_false] at hm
 have hk:(jS b p [3,4,5,2,6,1,0]).toNat≤6:=by omega
 have:=QD hb h (jS b p [3,4,5,2,6,1,0]).toNat [] (p+1) (by omega)
 simp only[wF]
 simp only[List.length_nil] at this
 omega
theorem Bt{s:dG}{m:Model}{a c:List bp}(h:eE s m (a++c)=true):eE s m a=true:=by
 simp only[eE,List.all_append,ai] at h⊢
 exact⟨h.1,h.2.1⟩
theorem Ig{run:List bp→zt}{a b:Term}:∀{ls:List (List bp)}{out:List Case},(qi run a b ls out).code=0→∃l∈ls,(run l).code=0∧(qi run a b ls out).model=(run l).model
 | [],out,h=>by rw[rm] at h;simp at h
 | l::ls,out,h=>by
   rw[pr] at h⊢
   rcases aa ((run l).code=1) with h1|h1
   ·rw[if_pos h1] at h⊢
    obtain⟨x,hx,h2,h3⟩:=Ig h
    exact⟨x,bl _ hx,h2,h3⟩
   ·rw[if_neg h1] at h⊢
    exact⟨l,by simp,h,rfl⟩
theorem Gw{run:List bp→zt}{a b:Term}:∀{ls:List (List bp)}{out:List Case},(qi run a b ls out).code=1→(qi run a b ls out).case.kind=4
 | [],out,h=>by rw[rm];rfl
 | l::ls,out,h=>by
   rw[pr] at h⊢
   rcases aa ((run l).code=1) with h1|h1
   ·rw[if_pos h1] at h⊢
    exact Gw h
   ·rw[if_neg h1] at h
    exact absurd h h1
section
variable{s:dG}{au nums:List Term}
theorem FI:∀(f:Nat)(ab:List bp),((jw s au nums f ab).code=0→eE s (jw s au nums f ab).model ab=true)∧((jw s au nums f ab).code=1→1≤(jw s au nums f ab).case.kind)
 | 0,ab=>by
   constructor<;>(intro h;simp[jw,uz] at h)
 | f+1,ab=>by
   rcases aa (12<(bc ab).length) with h12|h12
   ·rw[xl h12]
    constructor<;>(intro h;simp[uz] at h)
   cases hc:kI (jm au (closed au (bc ab)).1) ab with
   | some n=>
     rw[uh h12 hc]
     exact⟨fun h=>by simp at h,fun _=>by simp[Case.kind]⟩
   | none=>
   rcases aa ((bR (dY nums ab)).code=1) with h1|h1
   ·rw[wy h12 hc h1]
    exact⟨fun h=>by simp at h,fun _=>by simp[Case.kind]⟩
   rcases aa ((bR (dY nums ab)).code=0) with h0|h0
   ·cases hp:b9 nums.length (dZ true au nums (closed au (bc ab)).1 ab) with
    | some q=>
      rw[xq h12 hc h0 hp]
      obtain⟨i1,i2⟩:=FI f (ab++[gP (nums.getD q.1 aL) (nums.getD q.2 aL)])
      generalize jw s au nums f (ab++[gP (nums.getD q.1 aL) (nums.getD q.2 aL)])=r at *
      unfold AM
      rcases aa (r.code=1) with hr|hr
      ·rw[if_pos hr]
       exact⟨fun h=>by simp at h,fun _=>by simp[Case.kind]⟩
      ·rw[if_neg hr]
       exact⟨fun h=>Bt (i1 h),fun h=>absurd h hr⟩
    | none=>
    cases hq:b9 nums.length (dZ false au nums (closed au (bc ab)).1 ab) with
    | some q=>
      rw[rq h12 hc h0 hp hq]
      refine⟨fun h=>?_,fun h=>by rw[Gw h];omega⟩
      obtain⟨l,hl,h2,h3⟩:=Ig h
      rw[h3]
      obtain⟨x,_,rfl⟩:=bD.1 hl
      exact Bt ((FI f (ab++[x])).1 h2)
    | none=>
      rw[tN h12 hc h0 hp hq]
      rcases aa (eE s ⟨gY au nums (closed au (bc ab)).1 (bR (dY nums ab)).aB⟩ ab=true) with hm|hm
      ·rw[if_pos hm]
       exact⟨fun _=>hm,fun h=>by simp at h⟩
      ·rw[if_neg hm]
       constructor<;>(intro h;simp[uz] at h)
   ·rw[v8 h12 hc h1 h0]
    constructor<;>(intro h;simp[uz] at h)
theorem Nf{ab:List bp}(h:(fk s ab).code=0):eE s (fk s ab).model ab=true:=by
 unfold fk at h⊢
 split at h
 ·rename_i hb
  rw[if_pos hb]
  exact(FI 13 ab).1 h
 ·simp at h
end
def aaL(s:dG)(ab:List bp):List iA:=if fa s ab then bc ab else []
def aae(s:dG)(ab:List bp):List ia:=if fa s ab then dY (numsOf s ab) ab else []
def aau(s:dG)(ab:List bp):List Term:=if fa s ab then numsOf s ab else []
theorem xi{α:Type}[DecidableEq α]:∀{l m:List α},l.Nodup→(∀x∈l,x∈m)→l.length≤m.length
 | [],_,_,_=>Nat.zero_le _
 | x::l,m,hn,hs=>by
   have hx:x∈m:=hs x (by simp)
   obtain⟨h1,h2⟩:=cE.1 hn
   have h3:=xi (l:=l) (m:=m.erase x) h2 fun y hy=>(List.mem_erase_of_ne (show y≠x from fun e=>h1 (by rw[←e];exact hy))).2 (hs y (by simp[hy]))
   have h4:=List.length_erase_of_mem hx
   have h5:=List.length_pos_of_mem hx
   simp only[List.length_cons]
   omega
mutual
theorem EW:∀(t:Term)(l p:List Term),gN p→t∈p→(∀u∈l,u∈p)→∀u∈de l t,u∈p
 | .mk n ks,l,p,hp,ht,hl,u,hu=>by
   have h1:=nC ks l p hp (fun k hk=>hp _ ht k hk) hl
   rw[de] at hu
   split at hu
   ·simp only[aR,ay,bn,or_false] at hu
    rcases hu with hu|rfl
    ·exact h1 u hu
    ·exact ht
   ·exact h1 u hu
theorem nC:∀(ts l p:List Term),gN p→(∀t∈ts,t∈p)→(∀u∈l,u∈p)→∀u∈ba l ts,u∈p
 | [],l,p,_,_,hl,u,hu=>hl u (by simpa[ba] using hu)
 | t::ts,l,p,hp,ht,hl,u,hu=>by
   rw[ba] at hu
   exact nC ts _ p hp (fun x hx=>ht x (by simp[hx])) (EW t l p hp (ht t (by simp)) hl) u hu
end
theorem Mh{ts p:List Term}(h:∀t∈ts,isTerm t=true)(hp:gN p)(hs:∀t∈ts,t∈p):(lU ts).length≤p.length:=by
 rw[iw h]
 exact xi (kT ts [] (by simp)) (nC ts [] p hp hs (by simp))
theorem IM{eqs:List iA}{t:Term}:t∈E5 eqs↔∃e∈eqs,t=e.A∨t=e.B:=by simp[E5]
theorem Cg{ab:List bp}{e:iA}:e∈bc ab↔∃l∈ab,l.atom.kind=1∧l.no=false∧e=⟨l.atom.A,l.atom.B⟩:=by
 simp only[bc,List.mem_filterMap]
 constructor
 ·rintro⟨l,hl,h⟩
  split at h
  ·rename_i hk
   exact⟨l,hl,hk.1,hk.2,(Option.some.inj h).symm⟩
  ·cases h
 ·rintro⟨l,hl,h1,h2,h3⟩
  exact⟨l,hl,by rw[if_pos ⟨h1,h2⟩,h3]⟩
section
variable{s:dG}{ab:List bp}(h:fa s ab=true)
include h
theorem CG:∀l∈ab,eZ s l.atom=true:=by
 simp only[fa,ai,decide_eq_true_eq,cd] at h
 exact h.1.1.2
end
theorem Gc{c:List Nat}{a b i k:Nat}(hi:i<c.length)(hk:k<c.length)(h:cl c i=cl c k):cl (fU c a b) i=cl (fU c a b) k:=by
 rw[wT hi,wT hk,h]
theorem qT{ae:List Term}:∀(eqs:List iA)(n:Nat)(c:List Nat)(af:List Step){i k:Nat},i<c.length→k<c.length→cl c i=cl c k→(iX ae n eqs c af).1.length=c.length∧cl (iX ae n eqs c af).1 i=cl (iX ae n eqs c af).1 k
 | [],_,_,_,_,_,_,_,h=>⟨rfl,h⟩
 | e::es,n,c,af,i,k,hi,hk,h=>by
   rw[iX]
   split
   ·exact qT es (n+1) c af hi hk h
   ·have:=qT (ae:=ae) es (n+1) (fU c (aH ae e.A) (aH ae e.B)) (af++[⟨aH ae e.A,aH ae e.B,n⟩]) (i:=i) (k:=k) (by rw[fC];exact hi) (by rw[fC];exact hk) (Gc hi hk h)
    rw[fC] at this
    exact this
theorem RC{c:List Nat}{a b:Nat}(ha:a<c.length)(hb:b<c.length):cl (fU c a b) a=cl (fU c a b) b:=(BT ha hb).2 (.inr (.inl ⟨rfl,rfl⟩))
theorem xj{ae:List Term}:∀(eqs:List iA)(n:Nat)(c:List Nat)(af:List Step),c.length=ae.length→(∀e∈eqs,e.A∈ae∧e.B∈ae)→∀e∈eqs,cl (iX ae n eqs c af).1 (aH ae e.A)=cl (iX ae n eqs c af).1 (aH ae e.B)
 | [],_,_,_,_,_,e,he=>by simp at he
 | x::es,n,c,af,hc,kC,e,he=>by
   have hx:=kC x (by simp)
   have pA:aH ae x.A<c.length:=by rw[hc];exact bx hx.1
   have pB:aH ae x.B<c.length:=by rw[hc];exact bx hx.2
   rw[iX]
   split
   ·rename_i hs
    rcases ay.1 he with rfl|he
    ·exact(qT es (n+1) c af pA pB hs).2
    ·exact xj es (n+1) c af hc (fun y hy=>kC y (by simp[hy])) e he
   ·rcases ay.1 he with rfl|he
    ·exact(qT es (n+1) _ _ (by rw[fC];exact pA) (by rw[fC];exact pB) (RC pA pB)).2
    ·exact xj es (n+1) _ _ (by rw[fC];exact hc) (fun y hy=>kC y (by simp[hy])) e he
theorem sX{ae:List Term}:∀(eqs:List iA)(n:Nat)(c:List Nat)(af:List Step),(iX ae n eqs c af).1.length=c.length
 | [],_,_,_=>rfl
 | e::es,n,c,af=>by
   rw[iX]
   split
   ·exact sX es (n+1) c af
   ·rw[sX es (n+1),fC]
theorem Bv{ae:List Term}:∀(f:Nat)(c:List Nat)(af:List Step){i k:Nat},i<c.length→k<c.length→cl c i=cl c k→cl (j9 ae f c af).1 i=cl (j9 ae f c af).1 k
 | 0,_,_,_,_,_,_,h=>h
 | f+1,c,af,i,k,hi,hk,h=>by
   rw[j9]
   split
   ·exact h
   ·exact Bv f _ _ (by rw[fC];exact hi) (by rw[fC];exact hk) (Gc hi hk h)
theorem OU{ae:List Term}{eqs:List iA}(kC:∀e∈eqs,e.A∈ae∧e.B∈ae){e:iA}(he:e∈eqs):fY ae (closed ae eqs).1 e.A e.B=true:=by
 have hl:(given ae eqs).1.length=ae.length:=by rw[given,sX,fO]
 have h1:=kC e he
 refine decide_eq_true (Bv _ _ _ (by rw[hl];exact bx h1.1) (by rw[hl];exact bx h1.2) ?_)
 exact xj eqs 0 _ _ fO kC e he
end Go.Mod
