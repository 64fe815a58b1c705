/-
  Plain laws on literals that are decided: their terms and numbers stay the same where more is told of these. No program is walked here.
-/
import Derived.Test.YtabembjmeobhoaaGreatKBEk
import Derived.Test.YtabembjmeobhoaaGreatKBEb
set_option linter.unusedVariables false
set_option linter.unusedSimpArgs false
open Bool renaming and_eq_true→ai
open Classical renaming em→aa
open List renaming getElem?_eq_getElem→ah,drop_eq_getElem_cons→aj,getElem_mem→ak,drop_of_length_le→al,mem_cons→ay,map_cons→aQ,mem_append→aR,mem_cons_of_mem→bl,not_mem_nil→bn,getElem?_eq_none→bq,range→bt,mem_map→bD,length_take→bS,all_eq_true→cd,nodup_cons→cE,mem_append_left→cY,range'→dG,mem_range→fc,mem_of_mem_drop→fA,length_range→fN,getElem?_set_ne→ko,takeWhile_cons→ng,dropWhile_cons→nh,pairwise_cons→nU,getElem?_set_self→oT
open Nat renaming lt_or_ge→bU
namespace Go.Mod
open Go.Eng
set_option maxRecDepth 100000
theorem S2{l:List Term}{t:Term}(h:gQ l)(ht:∀k∈t.kids,k∈l):gQ (l++[t]):=by
 intro u hu k hk
 rcases aR.1 hu with hu|hu
 ·exact cY _ (h u hu k hk)
 ·simp only[ay,bn,or_false] at hu
  subst hu
  exact cY _ (ht k hk)
mutual
theorem BD:∀(t:Term)(l:List Term),gQ l→gQ (dh l t)
 | .mk n ks,l,h=>by
   have h1:=oL ks l h
   rw[dh]
   split
   ·exact S2 h1 (rN ks l)
   ·exact h1
theorem oL:∀(ts:List Term)(l:List Term),gQ l→gQ (ba l ts)
 | [],l,h=>by rw[ba];exact h
 | t::ts,l,h=>by
   rw[ba]
   exact oL ts _ (BD t l h)
end
mutual
theorem DP:∀(t:Term)(l:List Term),l.Nodup→(dh l t).Nodup
 | .mk n ks,l,h=>by
   have h1:=kN ks l h
   rw[dh]
   split
   ·rename_i mr
    refine List.nodup_append.2 ⟨h1,by simp,fun x hx y hy e=>?_⟩
    simp only[ay,bn,or_false] at hy
    rw[e,hy] at hx
    have:=cK.2 hx
    omega
   ·exact h1
theorem kN:∀(ts:List Term)(l:List Term),l.Nodup→(ba l ts).Nodup
 | [],l,h=>by rw[ba];exact h
 | t::ts,l,h=>by
   rw[ba]
   exact kN ts _ (DP t l h)
end
mutual
theorem J9:∀(t:Term)(l:List Term),gQ l→t∈l→dh l t=l
 | .mk n ks,l,h,ht=>by
   have h1:=tK ks l h fun k hk=>h _ ht k hk
   rw[dh,h1]
   rw[if_neg (by have:=cK.2 ht;omega)]
theorem tK:∀(ts:List Term)(l:List Term),gQ l→(∀t∈ts,t∈l)→ba l ts=l
 | [],l,_,_=>by rw[ba]
 | t::ts,l,h,ht=>by
   rw[ba,J9 t l h (ht t (by simp))]
   exact tK ts l h fun u hu=>ht u (bl _ hu)
end
theorem F9(l:List Term)(xs ys:List Term):ba l (xs++ys)=ba (ba l xs) ys:=by
 rw[gg,gg,gg,List.foldl_append]
theorem Bh(a b:List bp):dI (a++b)=dI a++dI b:=by simp[dI]
theorem mR{ab:List bp}{t:Term}:t∈dI ab↔∃l∈ab,t∈b9 l.atom:=by simp[dI]
structure ia(s:dE)(ab:List bp):Prop where
 sig:fH s=true
 fit:∀l∈ab,Fit (numsOf s ab) l
 n24:(aA ab).length≤24
 n4:(numsOf s ab).length≤4
section
variable{s:dE}{ab:List bp}
theorem AW(h:eZ s ab=true):ia s ab:=by
 obtain⟨h1,h2,h3,h4,h5,h6,h7,h8⟩:=A8 h
 exact⟨h5,h1,h8,h3⟩
variable(h:ia s ab)
include h
theorem ia.wf:∀l∈ab,cJ l.atom=true:=fun l hl=>(h.fit l hl).wf
theorem ia.all:∀t∈dI ab,isTerm t=true:=(iT h.wf).2
theorem ia.EW:aA ab=ba [] (dI ab):=by rw[jD,iB h.all]
theorem ia.term:∀t∈aA ab,isTerm t=true:=by rw[jD];exact qR h.all
theorem ia.kids:gQ (aA ab):=by rw[h.EW];exact oL _ _ fun t ht=>by simp at ht
theorem ia.nodup:(aA ab).Nodup:=by rw[h.EW];exact kN _ _ (by simp)
theorem ia.has:∀l∈ab,∀t∈b9 l.atom,t∈aA ab:=fun l hl t ht=>by
 rw[jD]
 exact yt h.all t (mR.2 ⟨l,hl,ht⟩)
omit h in
theorem ov:∀t∈numsOf s ab,t∈aA ab:=fun t ht=>(List.mem_filter.1 ht).1
theorem ia.num:∀t∈numsOf s ab,isTerm t=true:=fun t ht=>h.term t (ov t ht)
theorem ia.rM:(numsOf s ab).Nodup:=h.nodup.filter _
theorem ia.eqs:∀e∈bc ab,e.A∈aA ab∧e.B∈aA ab∧(e.A∈numsOf s ab↔e.B∈numsOf s ab):=by
 intro e he
 simp only[bc,List.mem_filterMap] at he
 obtain⟨l,hl,e1⟩:=he
 split at e1
 ·rename_i hk
  simp only[Option.some.injEq] at e1
  have hm:b9 l.atom=[l.atom.A,l.atom.B]:=by simp[b9,hk.1]
  rw[←e1]
  exact⟨h.has l hl _ (by rw[hm];simp),h.has l hl _ (by rw[hm];simp),(h.fit l hl).eq hk.1⟩
 ·cases e1
theorem ia.same{l:bp}(hw:cJ l.atom=true)(ki:∀t∈b9 l.atom,t∈aA ab):aA (ab++[l])=aA ab:=by
 have lP:∀t∈dI (ab++[l]),isTerm t=true:=by
  rw[Bh]
  intro t ht
  rcases aR.1 ht with ht|ht
  ·exact h.all t ht
  ·obtain⟨l',hl',ht2⟩:=mR.1 ht
   simp only[ay,bn,or_false] at hl'
   rw[hl'] at ht2
   exact(mS hw).2 t ht2
 rw[jD,iB lP,Bh,F9,←h.EW]
 refine tK _ _ h.kids fun t ht=>?_
 obtain⟨l',hl',ht2⟩:=mR.1 ht
 simp only[ay,bn,or_false] at hl'
 rw[hl'] at ht2
 exact ki t ht2
theorem ia.more{l:bp}(hf:Fit (numsOf s ab) l)(ki:∀t∈b9 l.atom,t∈aA ab):ia s (ab++[l])∧aA (ab++[l])=aA ab∧numsOf s (ab++[l])=numsOf s ab:=by
 have e1:=h.same hf.wf ki
 have e2:numsOf s (ab++[l])=numsOf s ab:=by unfold numsOf;rw[e1]
 refine⟨⟨h.sig,fun x hx=>?_,by rw[e1];exact h.n24,by rw[e2];exact h.n4⟩,e1,e2⟩
 rw[e2]
 rcases aR.1 hx with hx|hx
 ·exact h.fit x hx
 ·simp only[ay,bn,or_false] at hx
  rw[hx];exact hf
omit h in
theorem Nw{a b:Term}:b9 (gJ a b).atom=[a,b]:=rfl
omit h in
theorem Hg{a b:Term}:∀t∈b9 (dz a b).atom,t=a∨t=b:=by
 intro t ht
 unfold dz at ht
 split at ht
 ·simp[b9] at ht;exact ht.symm
 ·simp[b9] at ht;exact ht
theorem ia.eq{a b:Term}(ha:a∈numsOf s ab)(hb:b∈numsOf s ab):ia s (ab++[gJ a b])∧aA (ab++[gJ a b])=aA ab∧numsOf s (ab++[gJ a b])=numsOf s ab:=by
 refine h.more (Oo ha hb (h.num a ha) (h.num b hb)) fun t ht=>?_
 rw[Nw] at ht
 simp only[ay,bn,or_false] at ht
 rcases ht with rfl|rfl
 ·exact ov _ ha
 ·exact ov _ hb
theorem ia.less{a b:Term}(ha:a∈numsOf s ab)(hb:b∈numsOf s ab)(jv:a≠b):ia s (ab++[dz a b])∧aA (ab++[dz a b])=aA ab∧numsOf s (ab++[dz a b])=numsOf s ab:=by
 refine h.more (EV ha hb (h.num a ha) (h.num b hb) jv) fun t ht=>?_
 rcases Hg t ht with rfl|rfl
 ·exact ov _ ha
 ·exact ov _ hb
end
def jW(nums:List Term)(c:List Nat)(e:iy):List Nat:=if bL nums e.A<0 then c else fV c (aH nums e.A) (aH nums e.B)
def Oq(nums:List Term)(eqs:List iy):List Nat:=eqs.foldl (jW nums) (bt nums.length)
theorem Kr{nums:List Term}{c d:List Nat}{e:iy}(hab:e.A∈nums↔e.B∈nums)(hc:c.length=nums.length)(hd:d.length=nums.length)(hr:∀i k,i<nums.length→k<nums.length→(cl c i=cl c k↔cl d i=cl d k)) :
 ∀i k,i<nums.length→k<nums.length→(cl (eU nums c e) i=cl (eU nums c e) k↔cl (jW nums d e) i=cl (jW nums d e) k):=by
 intro i k hi hk
 unfold eU jW
 rcases aa (e.A∈nums) with hA|hA
 ·have hB:=hab.1 hA
  have a0:=cK.2 hA
  have b0:=cK.2 hB
  have pa:=bx hA
  have pb:=bx hB
  rw[if_neg (by omega),if_neg (by omega),vu (by omega),vu (by omega),BM (by omega) (by omega),←hr i k hi hk,←hr i _ hi pa,←hr k _ hk pb,←hr i _ hi pb,←hr k _ hk pa]
  split<;>split<;>omega
 ·have a0:bL nums e.A<0:=by
   have:=(not_congr cK).2 hA
   omega
  rw[if_pos (.inl a0),if_pos a0]
  exact hr i k hi hk
theorem IX{nums:List Term}:∀{eqs:List iy}{c d:List Nat},(∀e∈eqs,(e.A∈nums↔e.B∈nums))→c.length=nums.length→d.length=nums.length→(∀i k,i<nums.length→k<nums.length→(cl c i=cl c k↔cl d i=cl d k)) →
 ∀i k,i<nums.length→k<nums.length→(cl (eqs.foldl (eU nums) c) i=cl (eqs.foldl (eU nums) c) k↔cl (eqs.foldl (jW nums) d) i=cl (eqs.foldl (jW nums) d) k)
 | [],c,d,_,_,_,hr=>hr
 | e::eqs,c,d,he,hc,hd,hr=>by
   simp only[List.foldl_cons]
   refine IX (fun x hx=>he x (bl _ hx)) (by rw[u7,hc]) ?_ (Kr (he e (by simp)) hc hd hr)
   unfold jW
   split
   ·exact hd
   ·rw[fD,hd]
theorem P3{nums:List Term}{ab:List bp}{i k:Nat}(he:∀e∈bc ab,(e.A∈nums↔e.B∈nums))(hi:i<nums.length)(hk:k<nums.length):decide (cl (Oq nums (bc ab)) i=cl (Oq nums (bc ab)) k)=linked nums ab i k:=by
 have:=IX he (c:=bt nums.length) (d:=bt nums.length) (by simp) (by simp) (fun _ _ _ _=>Iff.rfl) i k hi hk
 unfold linked
 exact decide_eq_decide.2 this.symm
def lS(i k n:Nat):List (Nat×Nat):=(dG k (n-k)).map (fun k=>(i,k))++dD (i+1) n
theorem nF{i n:Nat}(h:i<n):dD i n=lS i (i+1) n:=DD h
theorem oO{i k n:Nat}(h:k<n):lS i k n=(i,k)::lS i (k+1) n:=by
 unfold lS
 rw[nX h];rfl
theorem qb{i k n:Nat}(h:n≤k):lS i k n=dD (i+1) n:=by
 unfold lS
 rw[pf h];rfl
def vo{α:Type}(p:α→Bool)(l:List α)(i:Nat):Option Nat:=(dG i (l.length-i)).find? fun i=>match l[i]? with|none=>false|some x=>p x
theorem GP{α:Type}(p:α→Bool)(l:List α):kf p l=vo p l 0:=by
 unfold kf vo
 rw[List.range_eq_range',Nat.sub_zero]
 rfl
theorem CA{α:Type}{p:α→Bool}{l:List α}{i:Nat}(h:i<l.length):vo p l i=if p l[i] then some i else vo p l (i+1):=by
 unfold vo
 rw[nX h,List.find?_cons,ah h]
 cases hp:p l[i]<;>simp[hp]
theorem GG{α:Type}{p:α→Bool}{l:List α}{i:Nat}(h:l.length≤i):vo p l i=none:=by
 unfold vo
 rw[pf h];rfl
theorem AZ{α:Type}{p:α→Bool}{l:List α}{n:Nat}(h:kf p l=some n):∃hn:n<l.length,p l[n]=true:=by
 have h1:=List.find?_some h
 have h2:=fc.1 (List.mem_of_find?_eq_some h)
 refine⟨h2,?_⟩
 rw[ah h2] at h1
 exact h1
def atI:Option Nat→Int
 | none=>-1
 | some n=>n
def told(ab:List bp)(l:bp):Bool:=ab.any fun x=>(x.no == l.no)&&decide (x.atom=l.atom)
theorem Dg{nums:List Term}{ab:List bp}{i k:Nat}:told ab (dz (nums.getD i aL) (nums.getD k aL))=eM nums ab i k:=by
 unfold told eM
 rw[Gf]
 congr 1
 funext x
 cases x.no<;>rfl
def Jq(ab:List bp)(l:bp)(i:Nat):Bool:=(ab.drop i).any fun x=>(x.no == l.no)&&decide (x.atom=l.atom)
theorem PW{ab:List bp}{l:bp}{i:Nat}(h:i<ab.length):Jq ab l i=((ab[i].no == l.no)&&decide (ab[i].atom=l.atom)||Jq ab l (i+1)):=by
 unfold Jq
 rw[aj h,List.any_cons]
theorem So{ab:List bp}{l:bp}{i:Nat}(h:ab.length≤i):Jq ab l i=false:=by
 unfold Jq
 rw[al h];rfl
def dY(have_:Bool)(au nums:List Term)(c:List Nat)(ab:List bp)(i k:Nat):Bool:=!linked nums ab i k&&(if have_ then fS au c (nums.getD i aL) (nums.getD k aL) else(!eM nums ab i k&& !eM nums ab k i))
def qV(au nums:List Term)(eqs:List iy)(c:List Nat):List D:=[.dP (aP au),.dP (aP nums),.dP (gP eqs),.dP (bO c)]
attribute [go_sem] qV
theorem Ge{α:Type}{p q:α→Bool}:∀{l:List α},(∀x∈l,p x=q x)→l.takeWhile p=l.takeWhile q∧l.dropWhile p=l.dropWhile q
 | [],_=>⟨rfl,rfl⟩
 | x::l,h=>by
   obtain⟨h1,h2⟩:=Ge (l:=l) fun y hy=>h y (bl _ hy)
   rw[ng,ng,nh,nh,h x (by simp),h1,h2]
   exact⟨rfl,rfl⟩
def nC(rows:List Row)(r:Row):List Row:=
 match rows.dropWhile fun x=>dq x r with
 | []=>rows.takeWhile (fun x=>dq x r)++[r]
 | x::xs=>if x.name=r.name∧x.args=r.args then rows else rows.takeWhile (fun x=>dq x r)++r::x::xs
theorem EY{rows:List Row}{r:Row}(hr:dC r.args=true)(hrs:∀x∈rows,dC x.args=true):putRow rows r=nC rows r:=by
 have e:∀x∈rows,decide (fb x r<0)=dq x r:=fun x hx=>by
  have h:=lp (hrs x hx) hr
  cases hl:dq x r
  ·exact decide_eq_false fun h1=>by rw[h.1 h1] at hl;cases hl
  ·exact decide_eq_true (h.2 hl)
 obtain⟨e1,e2⟩:=Ge e
 have mq:∀x∈rows.dropWhile (fun x=>dq x r),x∈rows:=fun x hx=>(List.dropWhile_sublist _).subset hx
 unfold putRow nC
 simp only[e1,e2]
 cases hd:rows.dropWhile (fun x=>dq x r) with
 | nil=>rfl
 | cons x xs=>
   rw[hd] at mq
   have h:=qk (hrs x (mq x (by simp))) hr
   simp only
   rcases aa (fb x r=0) with hc|hc
   ·rw[if_pos hc,if_pos (h.1 hc)]
   ·rw[if_neg hc,if_neg fun h1=>hc (h.2 h1)]
theorem GY{rows:List Row}{r x:Row}(h:x∈putRow rows r):x∈rows∨x=r:=by
 unfold putRow at h
 have hs1:∀x∈rows.takeWhile (fun x=>decide (fb x r<0)),x∈rows:=fun x hx=>(List.takeWhile_sublist _).subset hx
 have hs2:∀x∈rows.dropWhile (fun x=>decide (fb x r<0)),x∈rows:=fun x hx=>(List.dropWhile_sublist _).subset hx
 simp only at h
 split at h
 ·rcases aR.1 h with h|h
  ·exact .inl (hs1 _ h)
  ·exact .inr (by simpa using h)
 ·rename_i y ys hd
  rw[hd] at hs2
  split at h
  ·exact .inl h
  ·rcases aR.1 h with h|h
   ·exact .inl (hs1 _ h)
   ·rcases ay.1 h with h|h
    ·exact .inr h
    ·exact .inl (hs2 _ h)
theorem GF(rows:List Row)(r:Row):(putRow rows r).length≤rows.length+1:=by
 unfold putRow
 have h:=congrArg List.length (List.takeWhile_append_dropWhile (p:=fun x=>decide (fb x r<0)) (l:=rows))
 rw[List.length_append] at h
 simp only
 split
 ·rename_i hd
  rw[hd] at h
  simp at h⊢
  omega
 ·rename_i y ys hd
  rw[hd] at h
  split
  ·omega
  ·simp at h⊢
   omega
def r5(p:Row→Bool)(rows:List Row)(i:Nat):Prop:=rows.takeWhile p=rows.take i++(rows.drop i).takeWhile p∧rows.dropWhile p=(rows.drop i).dropWhile p
theorem r5.zero(p:Row→Bool)(rows:List Row):r5 p rows 0:=⟨by simp,by simp⟩
theorem r5.step{p:Row→Bool}{rows:List Row}{i:Nat}(h:r5 p rows i)(hi:i<rows.length)(hp:p rows[i]=true):r5 p rows (i+1):=by
 obtain⟨h1,h2⟩:=h
 rw[aj hi] at h1 h2
 rw[ng,if_pos hp] at h1
 rw[nh,if_pos hp] at h2
 refine⟨?_,h2⟩
 rw[h1,List.take_add_one,ah hi,List.append_assoc]
 rfl
theorem r5.stop{p:Row→Bool}{rows:List Row}{i:Nat}(h:r5 p rows i)(hi:i<rows.length)(hp:p rows[i]=false):rows.takeWhile p=rows.take i∧rows.dropWhile p=rows[i]::rows.drop (i+1):=by
 obtain⟨h1,h2⟩:=h
 rw[aj hi] at h1 h2
 rw[ng,if_neg (by rw[hp];simp),List.append_nil] at h1
 rw[nh,if_neg (by rw[hp];simp)] at h2
 exact⟨h1,h2⟩
theorem r5.done{p:Row→Bool}{rows:List Row}{i:Nat}(h:r5 p rows i)(hi:rows.length≤i):rows.takeWhile p=rows∧rows.dropWhile p=[]:=by
 obtain⟨h1,h2⟩:=h
 rw[al hi] at h1 h2
 rw[List.take_of_length_le hi] at h1
 exact⟨by simpa using h1,h2⟩
theorem VP{au nums:List Term}{c:List Nat}{aE:List Rat}{t:Term}(hc:∀x∈c,x≤1000)(hv:∀x∈aE,bV x=true):bV (iI au nums c aE t)=true:=by
 have hle:cl c (aH au t)≤1000:=by
  rcases bU (aH au t) c.length with h1|h1
  ·exact hc _ (yV h1)
  ·rw[Yj h1];omega
 unfold iI
 split
 ·exact qn (by omega) (by omega)
 ·rcases bU (aH nums t) aE.length with h1|h1
  ·exact hv _ (mM h1)
  ·rw[List.getD_eq_getElem?_getD,bq h1]
   exact qn (by omega) (by omega)
theorem rP{au nums:List Term}{c:List Nat}{aE:List Rat}{t:Term}(hc:∀x∈c,x≤1000)(hv:∀x∈aE,bV x=true):dC (iA au nums c aE t).args=true:=by
 unfold dC
 refine cd.2 fun x hx=>?_
 simp only[iA,bD] at hx
 obtain⟨k,_,rfl⟩:=hx
 exact VP hc hv
theorem zU{list:List ib}(h:(bN list).code=0):(bN list).aE.length=4∧∀x∈(bN list).aE,bV x=true:=by
 have lP:∀v,kV list v=true→v.length=4∧∀x∈v,bV x=true:=fun v hv=>by
  simp only[kV,qi,ai,decide_eq_true_eq,cd] at hv
  exact hv.2.1
 have hend:∀s0 s1 s2 s3 rows,(ie list s0 s1 s2 s3 rows).code=0→(ie list s0 s1 s2 s3 rows).aE.length=4∧∀x∈(ie list s0 s1 s2 s3 rows).aE,bV x=true:=fun s0 s1 s2 s3 rows h=>by
  unfold ie at h⊢
  split at h
  ·split at h<;>simp at h
  ·split at h
   ·simp at h
   ·split at h
    ·rename_i hf
     rw[if_pos hf]
     exact lP _ hf
    ·simp at h
 unfold bN at h⊢
 split at h
 ·rename_i hs
  rw[if_pos hs]
  split at h
  ·simp at h
  ·split at h
   ·simp at h
   ·split at h
    ·simp at h
    ·split at h
     ·simp at h
     ·exact hend _ _ _ _ _ h
 ·simp at h
theorem Mg{t:Term}(h:isTerm t=true):t.kids.length≤2:=by
 have h1:=iC h
 cases t with
 | mk n ks=>
   simp only[bK,ai,decide_eq_true_eq] at h1
   exact h1.2.1
theorem Ab{a:Atom}(h:cJ a=true):a.times.length≤4:=by
 rcases aa (a.kind=1) with h1|h1
 ·simp only[cJ,if_pos h1,ai,decide_eq_true_eq] at h
  omega
 ·rcases aa (a.kind=2) with h2|h2
  ·have:=mF h h2
   omega
  ·simp[cJ,h1,h2] at h
section
variable{s:dE}{ab:List bp}(h:ia s ab)
include h
theorem ia.Mv:∀t∈aA ab,t.kids.length≤1000:=fun t ht=>by
 have:=Mg (h.term t ht)
 omega
theorem ia.Tg:(aA ab).length≤1000:=by
 have:=h.n24
 omega
theorem ia.Aa:∀e∈bc ab,e.A∈aA ab∧e.B∈aA ab:=fun e he=>⟨(h.eqs e he).1,(h.eqs e he).2.1⟩
theorem ia.VU:∀e∈bc ab,(e.A∈numsOf s ab↔e.B∈numsOf s ab):=fun e he=>(h.eqs e he).2.2
theorem ia.Nd:(closed (aA ab) (bc ab)).1.length=(aA ab).length:=Mr (mu h.Aa)
theorem ia.J7:∀x∈(closed (aA ab) (bc ab)).1,x≤1000:=by
 have hk:=mu h.Aa
 have h1:=vh hk _ (Nat.le_refl _)
 rw[←hk.2] at h1
 intro x hx
 have h2:=U7 hx
 have h3:(bt (aA ab).length).sum≤(bt (aA ab).length).length*23:=pw fun x hx=>by
  have:=fc.1 hx
  have:=h.n24
  omega
 have h4:(bt (aA ab).length).length*23≤24*23:=Nat.mul_le_mul_right _ (by simpa using h.n24)
 omega
theorem ia.JX:∀l∈ab,l.atom.kind=1→l.atom.A∈aA ab∧l.atom.B∈aA ab:=fun l hl hk=>by
 have hm:b9 l.atom=[l.atom.A,l.atom.B]:=by simp[b9,hk]
 exact⟨h.has l hl _ (by rw[hm];simp),h.has l hl _ (by rw[hm];simp)⟩
end
theorem zC(s:dE)(ab:List bp):(aA ab).filter (dk s)=numsOf s ab:=rfl
theorem uA{au nums:List Term}{c:List Nat}{ab:List bp}{i k:Nat}(h:dY false au nums c ab i k=true):qE nums ab i k=true:=h
theorem q9{v:Bool}{au nums:List Term}{c:List Nat}{ab:List bp}{i k:Nat}(h:dY v au nums c ab i k=true):linked nums ab i k=false:=by
 unfold dY at h
 cases hl:linked nums ab i k
 ·rfl
 ·rw[hl] at h;simp at h
def Next(s:dE)(ab:List bp)(l:bp):Prop:=ia s (ab++[l])∧aA (ab++[l])=aA ab∧numsOf s (ab++[l])=numsOf s ab∧room (numsOf s ab) (ab++[l])<room (numsOf s ab) ab
theorem Ev{s:dE}{ab:List bp}(h:ia s ab){i k:Nat}(h1:i<k)(h2:k<(numsOf s ab).length)(hl:linked (numsOf s ab) ab i k=false):Next s ab (gJ ((numsOf s ab).getD i aL) ((numsOf s ab).getD k aL)):=by
 obtain⟨g1,g2,g3⟩:=h.eq (a:=(numsOf s ab).getD i aL) (b:=(numsOf s ab).getD k aL) (mM (by omega)) (mM h2)
 exact⟨g1,g2,g3,X0 h.rM h1 h2 hl⟩
theorem AL{s:dE}{ab:List bp}(h:ia s ab){i k:Nat}(h1:i<k)(h2:k<(numsOf s ab).length):(numsOf s ab).getD i aL≠(numsOf s ab).getD k aL:=fun e=>by
 have a1:=jC h.rM (by omega:i<(numsOf s ab).length)
 have a2:=jC h.rM h2
 rw[eX (by omega),eX h2] at e
 rw[e] at a1
 omega
theorem Sm{s:dE}{ab:List bp}(h:ia s ab){i k:Nat}(h1:i<k)(h2:k<(numsOf s ab).length)(hl:qE (numsOf s ab) ab i k=true):Next s ab (dz ((numsOf s ab).getD i aL) ((numsOf s ab).getD k aL))∧Next s ab (dz ((numsOf s ab).getD k aL) ((numsOf s ab).getD i aL)):=by
 have jv:=AL h h1 h2
 have hi:=mM (d:=aL) (by omega:i<(numsOf s ab).length)
 have hk:=mM (d:=aL) h2
 obtain⟨g1,g2,g3⟩:=h.less hi hk jv
 obtain⟨f1,f2,f3⟩:=h.less hk hi (Ne.symm jv)
 exact⟨⟨g1,g2,g3,Js h1 h2 hl (.inl rfl)⟩,⟨f1,f2,f3,Js h1 h2 hl (.inr rfl)⟩⟩
theorem w9{s:dE}{ab:List bp}(h:ia s ab){i k:Nat}(h1:i<k)(h2:k<(numsOf s ab).length)(hl:qE (numsOf s ab) ab i k=true):∀l∈fJ ((numsOf s ab).getD i aL) ((numsOf s ab).getD k aL),Next s ab l:=by
 have hlk:linked (numsOf s ab) ab i k=false:=q9 (v:=false) (au:=[]) (c:=[]) hl
 obtain⟨n1,n2⟩:=Sm h h1 h2 hl
 intro l hm
 simp only[fJ,ay,bn,or_false] at hm
 rcases hm with rfl|rfl|rfl
 ·exact Ev h h1 h2 hlk
 ·exact n1
 ·exact n2
theorem nJ{run:List bp→y6}{a b:Term}{l:List bp}{ls:List (List bp)}{out:List Case}:n8 run a b (l::ls) out=if(run l).code=1 then n8 run a b ls (out++[(run l).case]) else⟨(run l).model,s7,(run l).code⟩:=rfl
theorem pn{run:List bp→y6}{a b:Term}{out:List Case}:n8 run a b [] out=⟨l8,.mk 4 0 vO [] a b out,1⟩:=rfl
theorem UQ(n:Nat):atI (some n)=n:=rfl
theorem TR:atI none = -1:=rfl
section
variable{s:dE}{au nums:List Term}{f:Nat}{ab:List bp}
theorem tU(h:12<(bc ab).length):hY s au nums (f+1) ab=rJ:=by
 simp only[hY,if_pos h]
variable(h:¬12<(bc ab).length)
include h
theorem rv{n:Nat}(hc:kf (iZ au (closed au (bc ab)).1) ab=some n):hY s au nums (f+1) ab=⟨l8,.mk 1 n (lX au (closed au (bc ab)).2 (ab.getD n Dq).atom.A (ab.getD n Dq).atom.B) [] aL aL [],1⟩:=by
 simp only[hY,if_neg h,hc]
variable(hc:kf (iZ au (closed au (bc ab)).1) ab=none)
include hc
theorem ue(hf:(bN (dQ nums ab)).code=1):hY s au nums (f+1) ab=⟨l8,.mk 2 0 vO (bN (dQ nums ab)).times aL aL [],1⟩:=by
 simp only[hY,if_neg h,hc,if_pos hf]
theorem ud(hf:(bN (dQ nums ab)).code≠1)(hf2:(bN (dQ nums ab)).code≠0):hY s au nums (f+1) ab=rJ:=by
 simp only[hY,if_neg h,hc,if_neg hf,if_pos hf2]
variable(hf:(bN (dQ nums ab)).code=0)
include hf
theorem uj{q:Nat×Nat}(hp:b6 nums.length (dY true au nums (closed au (bc ab)).1 ab)=some q):hY s au nums (f+1) ab=yd (lX au (closed au (bc ab)).2 (nums.getD q.1 aL) (nums.getD q.2 aL)) (hY s au nums f (ab++[gJ (nums.getD q.1 aL) (nums.getD q.2 aL)])):=by
 have hp':b6 nums.length (fun i k=>!linked nums ab i k&&fS au (closed au (bc ab)).1 (nums.getD i aL) (nums.getD k aL))=some q:=hp
 have h1:¬ (bN (dQ nums ab)).code=1:=by omega
 simp only[hY,if_neg h,hc,if_neg h1,hf,ne_eq,not_true_eq_false,if_false,hp']
 rw[if_neg (by decide)]
variable(hp:b6 nums.length (dY true au nums (closed au (bc ab)).1 ab)=none)
include hp
theorem qh{q:Nat×Nat}(hq:b6 nums.length (dY false au nums (closed au (bc ab)).1 ab)=some q):hY s au nums (f+1) ab=n8 (hY s au nums f) (nums.getD q.1 aL) (nums.getD q.2 aL) ((fJ (nums.getD q.1 aL) (nums.getD q.2 aL)).map fun l=>ab++[l]) []:=by
 have hp':b6 nums.length (fun i k=>!linked nums ab i k&&fS au (closed au (bc ab)).1 (nums.getD i aL) (nums.getD k aL))=none:=hp
 have hq':b6 nums.length (fun i k=>!linked nums ab i k&&(!eM nums ab i k&& !eM nums ab k i))=some q:=hq
 have h1:¬ (bN (dQ nums ab)).code=1:=by omega
 simp only[hY,if_neg h,hc,if_neg h1,hf,ne_eq,not_true_eq_false,if_false,hp',hq']
 rw[if_neg (by decide)]
variable(hq:b6 nums.length (dY false au nums (closed au (bc ab)).1 ab)=none)
include hq
theorem ru:hY s au nums (f+1) ab=if eS s ⟨gY au nums (closed au (bc ab)).1 (bN (dQ nums ab)).aE⟩ ab=true then⟨⟨gY au nums (closed au (bc ab)).1 (bN (dQ nums ab)).aE⟩,s7,0⟩ else rJ:=by
 have hp':b6 nums.length (fun i k=>!linked nums ab i k&&fS au (closed au (bc ab)).1 (nums.getD i aL) (nums.getD k aL))=none:=hp
 have hq':b6 nums.length (fun i k=>!linked nums ab i k&&(!eM nums ab i k&& !eM nums ab k i))=none:=hq
 have h1:¬ (bN (dQ nums ab)).code=1:=by omega
 simp only[hY,if_neg h,hc,if_neg h1,hf,ne_eq,not_true_eq_false,if_false,hp',hq']
 rw[if_neg (by decide)]
end
def yr(e:Edge):List D:=[.val (.int .i64 (e.step:Int)),.val (.bool e.back)]
def di(l:List Edge):List (List D):=l.map yr
theorem Ki(l:List Edge):(di l).length=l.length:=by simp[di]
theorem uS{l:List Edge}{i:Nat}(h:i<l.length):row (di l) i=yr l[i]:=by simp[di,row,List.getD,ah h]
theorem Km(l:List Edge):∀y∈di l,y.length=2:=by
 intro y hy
 obtain⟨t,_,rfl⟩:=bD.1 hy
 rfl
theorem ra(a b:List Edge):di a++di b=di (a++b):=by simp[di]
theorem oM:di []=[]:=rfl
theorem qa(n:Edge)(l:List Edge):di (n::l)=yr n::di l:=rfl
theorem K0{l:List Edge}{i:Nat}{e:Edge}:(di l).set i (yr e)=di (l.set i e):=by simp[di,List.map_set]
attribute [go_sem] Ki uS oM yr
structure KF{α:Type}(l ys:List α)(i:Nat):Prop where
 len:ys.length=l.length
 at_:∀k,k<l.length→ys[k]?=if k<i∨l.length-1-k<i then l[l.length-1-k]? else l[k]?
theorem KF.zero{α:Type}(l:List α):KF l l 0:=⟨rfl,fun k _=>by simp⟩
theorem KF.step{α:Type}{l ys:List α}{i j:Nat}(h:KF l ys i)(hij:i<j)(hj:i+j+1=l.length)(hi':i<ys.length)(hj':j<ys.length):KF l ((ys.set i ys[j]).set j ys[i]) (i+1):=by
 have dy:=h.len
 refine⟨by simp[dy],fun k hk=>?_⟩
 have e1:ys[j]?=some ys[j]:=ah hj'
 have e2:ys[i]?=some ys[i]:=ah hi'
 have a1:=h.at_ j (by omega)
 have a2:=h.at_ i (by omega)
 have a3:=h.at_ k hk
 rw[if_neg (by omega)] at a1 a2
 rw[e1] at a1
 rw[e2] at a2
 rcases Nat.lt_trichotomy k j with h1|h1|h1
 ·rw[ko (by omega)]
  rcases aa (k=i) with h2|h2
  ·subst h2
   rw[oT hi',if_pos (.inl (by omega)),a1]
   congr 1
   omega
  ·rw[ko (by omega),a3]
   rcases aa (k<i∨l.length-1-k<i) with h3|h3
   ·rw[if_pos h3,if_pos (by omega)]
   ·rw[if_neg h3,if_neg (by omega)]
 ·subst h1
  rw[oT (by simpa using hj'),if_pos (.inr (by omega)),a2]
  congr 1
  omega
 ·rw[ko (by omega),ko (by omega),a3,if_pos (by omega),if_pos (by omega)]
theorem KF.done{α:Type}{l ys:List α}{i:Nat}(h:KF l ys i)(hi:l.length≤2*i+1):ys=l.reverse:=by
 apply List.ext_getElem?
 intro k
 rcases bU k l.length with h1|h1
 ·rw[h.at_ k h1,List.getElem?_reverse h1]
  rcases aa (k<i∨l.length-1-k<i) with h2|h2
  ·rw[if_pos h2]
  ·rw[if_neg h2]
   congr 1
   omega
 ·rw[bq (by rw[h.len];exact h1),bq (by simpa using h1)]
def zh(cf:List (Nat×Edge)):List (Int×Value):=(iP cf).map fun(v:Nat)=>((v:Int),Value.bool true)
def oH(cf:List (Nat×Edge)):List (Int×Value):=(cf.drop 1).map fun p=>((p.1:Int),Value.agg #[.int .i64 (p.2.step:Int),.bool p.2.back])
theorem Av(a b:List (Nat×Edge)):zh (a++b)=zh a++zh b:=by simp[zh,iP]
theorem sU{a:List (Nat×Edge)}{p:Nat×Edge}(h:0<a.length):oH (a++[p])=oH a++[((p.1:Int),Value.agg #[.int .i64 (p.2.step:Int),.bool p.2.back])]:=by
 unfold oH
 rw[List.drop_append_of_le_length (by omega),List.map_append]
 rfl
theorem Jw:∀{l:List Nat}{n:Nat},n∈l→kv (l.map fun(v:Nat)=>((v:Int),Value.bool true)) (n:Int)=some (.bool true)
 | v::l,n,h=>by
   simp only[aQ,kv]
   rcases aa ((n:Int)=(v:Int)) with h1|h1
   ·rw[if_pos h1]
   ·rw[if_neg h1]
    rcases ay.1 h with h|h
    ·exact absurd (by rw[h]) h1
    ·exact Jw h
theorem Ga:∀{l:List Nat}{n:Nat},n∉l→kv (l.map fun(v:Nat)=>((v:Int),Value.bool true)) (n:Int)=none
 | [],_,_=>rfl
 | v::l,n,h=>by
   simp only[aQ,kv]
   rw[if_neg (fun e=>h (by simp[show n=v by omega]))]
   exact Ga fun h1=>h (bl _ h1)
theorem zp{cf:List (Nat×Edge)}{n:Nat}(h:n∈iP cf):kv (zh cf) (n:Int)=some (.bool true):=Jw h
theorem rh{cf:List (Nat×Edge)}{n:Nat}(h:n∉iP cf):kv (zh cf) (n:Int)=none:=Ga h
theorem z7:∀{l:List (Nat×Edge)}{j:Nat}{v:Nat}{e:Edge},(l.map Prod.fst).Nodup→l[j]?=some (v,e)→kv (l.map fun p=>((p.1:Int),Value.agg #[.int .i64 (p.2.step:Int),.bool p.2.back])) (v:Int)=some (.agg #[.int .i64 (e.step:Int),.bool e.back])
 | [],j,v,e,_,h=>by simp at h
 | p::l,0,v,e,_,h=>by
   simp only[List.getElem?_cons_zero,Option.some.injEq] at h
   subst h
   simp[kv]
 | p::l,j+1,v,e,hn,h=>by
   simp only[List.getElem?_cons_succ] at h
   simp only[aQ,cE] at hn
   have hm:v∈l.map Prod.fst:=bD.2 ⟨(v,e),List.mem_of_getElem? h,rfl⟩
   simp only[aQ,kv]
   rw[if_neg (fun e1=>hn.1 (by rw[show p.1=v by omega];exact hm))]
   exact z7 hn.2 h
theorem Hf{cf:List (Nat×Edge)}(hn:(iP cf).Nodup){j v:Nat}{e:Edge}(hj:0<j)(h:cf[j]?=some (v,e)):kv (oH cf) (v:Int)=some (.agg #[.int .i64 (e.step:Int),.bool e.back]):=by
 refine z7 (j:=j-1) ?_ ?_
 ·rw[List.map_drop]
  exact hn.sublist (List.drop_sublist _ _)
 ·rw[List.getElem?_drop,show 1+(j-1)=j by omega]
  exact h
theorem rX{cf:List (Nat×Edge)}{n:Nat}(h:n∉iP cf):kv (oH cf) (n:Int)=none:=by
 have key:∀{l:List (Nat×Edge)},(∀p∈l,p.1≠n)→kv (l.map fun p=>((p.1:Int),Value.agg #[.int .i64 (p.2.step:Int),.bool p.2.back])) (n:Int)=none:=by
  intro l
  induction l with
  | nil=>intro _;rfl
  | cons p l ih=>
    intro hl
    simp only[aQ,kv]
    rw[if_neg (fun e=>hl p (by simp) (by omega))]
    exact ih fun q hq=>hl q (bl _ hq)
 refine key fun p hp e=>h ?_
 rw[←e]
 exact bD.2 ⟨p,fA hp,rfl⟩
def zM(af:List Step)(k:Nat)(cf:List (Nat×Edge))(v:Nat):Prop:=∀j,j<k→(vA af j=v→vB af j∈iP cf)∧(vB af j=v→vA af j∈iP cf)
theorem LX(af:List Step)(cf:List (Nat×Edge))(v:Nat):zM af 0 cf v:=fun j hj=>by omega
theorem Px{af:List Step}{n:Nat}{cf:List (Nat×Edge)}{v:Nat}(h:zM af n cf v):Seen af n cf v:=h
theorem n9{af:List Step}{k:Nat}{cf:List (Nat×Edge)}{v:Nat}(h:zM af k cf v)(h1:vA af k=v→vB af k∈iP cf)(h2:vB af k=v→vA af k∈iP cf):zM af (k+1) cf v:=fun j hj=>by
 rcases bU j k with h3|h3
 ·exact h j h3
 ·obtain rfl:j=k:=by omega
  exact⟨h1,h2⟩
theorem Dh{af:List Step}{k:Nat}{a b:List (Nat×Edge)}{v:Nat}(h:zM af k a v):zM af k (a++b) v:=H9 (n:=k) h
theorem Ie:∀(rs:List Row)(t:Row),rs.takeWhile (fun x=>decide (fb x t<0))=rs.take (cut rs t)∧rs.dropWhile (fun x=>decide (fb x t<0))=rs.drop (cut rs t)
 | [],_=>by simp[cut]
 | r::rs,t=>by
   obtain⟨h1,h2⟩:=Ie rs t
   rcases aa (fb r t<0) with h|h
   ·simp[cut,h,h1,h2]
   ·simp[cut,h]
theorem r7(rs:List Row)(t:Row):putRow rs t=if found rs t then rs else rs.take (cut rs t)++t::rs.drop (cut rs t):=by
 obtain⟨h1,h2⟩:=Ie rs t
 unfold putRow found
 simp only[h1,h2]
 rcases bU (cut rs t) rs.length with h|h
 ·rw[aj h,ah h]
  rcases aa (fb rs[cut rs t] t=0) with hc|hc
  ·simp[hc]
  ·simp[hc]
 ·rw[al h,bq h]
  simp
theorem yQ{a b:Rat}(ha:bV a=true)(hb:bV b=true)(h:a≠b):cS a b=true∨cS b a=true:=by
 rw[fx ha hb,fx hb ha]
 have h1:a.N*b.D≠b.N*a.D:=fun e=>h (Cl ha hb e)
 omega
theorem vY:∀{as bs:List Rat},dC as=true→dC bs=true→as.length=bs.length→as≠bs→fY as bs=true∨fY bs as=true
 | [],[],_,_,_,h=>absurd rfl h
 | [],b::bs,_,_,h,_=>by simp at h
 | a::as,[],_,_,h,_=>by simp at h
 | a::as,b::bs,h1,h2,h3,h4=>by
   simp only[dC,List.all_cons,ai] at h1 h2
   simp only[fY]
   rcases aa (a=b) with h|h
   ·rw[if_pos h,if_pos h.symm]
    exact vY h1.2 h2.2 (by simpa using h3) fun e=>h4 (by rw[h,e])
   ·rw[if_neg h,if_neg (Ne.symm h)]
    exact yQ h1.1 h2.1 h
theorem NG{a b:ni}(h:a≠b):gn a b=true∨gn b a=true:=by
 cases h1:gn a b
 ·cases h2:gn b a
  ·exact absurd (qo.1 (by simp[nS,h1,h2])) h
  ·exact .inr rfl
 ·exact .inl rfl
theorem H8{a b:Row}(ha:dC a.args=true)(hb:dC b.args=true)(h:¬ (a.name=b.name∧a.args=b.args)):dq a b=true∨dq b a=true:=by
 unfold dq
 rcases aa (a.name=b.name) with h1|h1
 ·rw[if_pos h1,if_pos h1.symm]
  rcases aa (a.args.length=b.args.length) with h2|h2
  ·rw[if_pos h2,if_pos h2.symm]
   exact vY ha hb h2 fun e=>h ⟨h1,e⟩
  ·rw[if_neg h2,if_neg (Ne.symm h2)]
   rcases bU a.args.length b.args.length with h3|h3
   ·exact .inl (decide_eq_true h3)
   ·exact .inr (decide_eq_true (by omega))
 ·rw[if_neg h1,if_neg (Ne.symm h1)]
  exact NG h1
theorem IC{rs:List Row}{t:Row}(h1:∀r∈rs,dC r.args=true)(h2:rs.Pairwise (fun a b=>dq a b=true))(ht:dC t.args=true):lx rs t:=by
 refine List.Pairwise.imp_of_mem ?_ h2
 intro a b ha hb hab hbt
 have wa:=h1 a ha
 have wb:=h1 b hb
 rw[lp wb ht] at hbt
 rw[lp wa ht]
 exact p9 wa wb ht hab hbt
theorem NM{rs:List Row}{t:Row}(h1:∀r∈rs,dC r.args=true)(h2:rs.Pairwise (fun a b=>dq a b=true))(ht:dC t.args=true):(putRow rs t).Pairwise (fun a b=>dq a b=true):=by
 have hm:=IC h1 h2 ht
 have hc:=fun k h=>sY hm k h
 rw[r7]
 cases hf:found rs t
 ·rw[if_neg (by simp)]
  have hsplit:=h2
  rw[←List.take_append_drop (cut rs t) rs] at hsplit
  obtain⟨p1,p2,p3⟩:=List.pairwise_append.1 hsplit
  have hlo:∀x∈rs.take (cut rs t),dq x t=true:=fun x hx=>by
   obtain⟨k,hk,rfl⟩:=List.mem_iff_getElem.1 hx
   have hk2:k<cut rs t:=by rw[bS] at hk;omega
   have hk3:k<rs.length:=by rw[bS] at hk;omega
   rw[List.getElem_take]
   exact(lp (h1 _ (ak hk3)) ht).1 ((hc k hk3).1 hk2)
  have hhi:∀y∈rs.drop (cut rs t),dq t y=true:=fun y hy=>by
   rcases bU (cut rs t) rs.length with h|h
   ·have w0:=h1 _ (ak h)
    have n1:¬fb rs[cut rs t] t<0:=fun e=>by
     have:=(hc _ h).2 e
     omega
    have n2:fb rs[cut rs t] t≠0:=fun e=>by
     rw[found,ah h] at hf
     simp[e] at hf
    have h0:dq t rs[cut rs t]=true:=by
     rcases H8 w0 ht (fun e=>n2 ((qk w0 ht).2 e)) with h3|h3
     ·exact absurd ((lp w0 ht).2 h3) n1
     ·exact h3
    rw[aj h] at hy p2
    rcases ay.1 hy with rfl|hy2
    ·exact h0
    ·exact p9 ht w0 (h1 _ (fA hy2)) h0 ((nU.1 p2).1 y hy2)
   ·rw[al h] at hy
    simp at hy
  refine List.pairwise_append.2 ⟨p1,nU.2 ⟨hhi,p2⟩,fun x hx y hy=>?_⟩
  rcases ay.1 hy with rfl|hy
  ·exact hlo x hx
  ·exact p3 x hx y hy
 ·rw[if_pos rfl]
  exact h2
def vn(b:List Int)(s:dE)(p:Int):bp×Int:=(⟨(nM b s p).1,decide (de b (nM b s p).2 3=0)⟩,(nM b s p).2+1)
theorem P8{b:List Int}(hb:x6 b){s:dE}(h:fC s){p:Int}(hp:0≤p):p≤(vn b s p).2∧(vn b s p).2≤p+61:=by
 have h1:=OH hb h hp
 simp only[vn]
 omega
def vZ(b:List Int)(s:dE):Nat→List bp→Int→List bp×Int
 | 0,out,p=>(out,p)
 | n+1,out,p=>vZ b s n (if eZ s (out++[(vn b s p).1]) then out++[(vn b s p).1] else out) (vn b s p).2
def FO(b:List Int)(s:dE):Nat→List bp→Int→List bp×Int
 | 0,out,p=>(out,p)
 | n+1,out,p=>FO b s n (out++[(vn b s p).1]) (vn b s p).2
def xl(b:List Int)(s:dE)(p:Int):List bp×Int:=vZ b s (jR b p [3,4,5,2,6,1,0]).toNat [] (p+1)
def FE(b:List Int)(p:Int):dE×List bp×Int:=
 let g:=Ms b p
 let r:=xl b g.1 g.2
 let k:=de b r.2 48
 if k=0 then(g.1,r.1++[⟨(CX b g.1 (r.2+1)).1,false⟩],(CX b g.1 (r.2+1)).2) else
 if k=1 then(g.1,(FO b g.1 (7-r.1.length) r.1 (r.2+1)).1,(FO b g.1 (7-r.1.length) r.1 (r.2+1)).2) else
 if k=2 then((jj b (jj b g.1 (r.2+1)).1 (jj b g.1 (r.2+1)).2).1,r.1,(jj b (jj b g.1 (r.2+1)).1 (jj b g.1 (r.2+1)).2).2) else
 if k=3 then(g.1,r.1++[Dq],r.2+1) else(g.1,r.1,r.2+1)
def LN(b:List Int):dE×List bp:=((FE b 0).1,(FE b 0).2.1)
theorem QX{b:List Int}(hb:x6 b){s:dE}(h:fC s):∀(n:Nat)(out:List bp)(p:Int),0≤p→p≤(vZ b s n out p).2∧(vZ b s n out p).2≤p+n*61∧(vZ b s n out p).1.length≤out.length+n
 | 0,out,p,_=>by simp[vZ]
 | n+1,out,p,hp=>by
   have h1:=P8 hb h hp
   have h2:=QX hb h n (if eZ s (out++[(vn b s p).1]) then out++[(vn b s p).1] else out) (vn b s p).2 (by omega)
   have h3:(if eZ s (out++[(vn b s p).1]) then out++[(vn b s p).1] else out).length≤out.length+1:=by
    split
    ·simp
    ·omega
   simp only[vZ]
   omega
theorem W8{b:List Int}(hb:x6 b){s:dE}(h:fC s){p:Int}(hp:0≤p):p≤(xl b s p).2∧(xl b s p).2≤p+500∧(xl b s p).1.length≤6:=by
 have hm:=wU hb (p:=p) (l:=[3,4,5,2,6,1,0]) hp (by simp)
 simp only[ay,bn,or_false] at hm
 have hk:(jR b p [3,4,5,2,6,1,0]).toNat≤6:=by omega
 have:=QX hb h (jR b p [3,4,5,2,6,1,0]).toNat [] (p+1) (by omega)
 simp only[xl]
 simp only[List.length_nil] at this
 omega
theorem AM{s:dE}{m:Model}{a c:List bp}(h:eS s m (a++c)=true):eS s m a=true:=by
 simp only[eS,List.all_append,ai] at h⊢
 exact⟨h.1,h.2.1⟩
theorem Iy{run:List bp→y6}{a b:Term}:∀{ls:List (List bp)}{out:List Case},(n8 run a b ls out).code=0→∃l∈ls,(run l).code=0∧(n8 run a b ls out).model=(run l).model
 | [],out,h=>by rw[pn] at h;simp at h
 | l::ls,out,h=>by
   rw[nJ] at h⊢
   rcases aa ((run l).code=1) with h1|h1
   ·rw[if_pos h1] at h⊢
    obtain⟨x,hx,h2,h3⟩:=Iy h
    exact⟨x,bl _ hx,h2,h3⟩
   ·rw[if_neg h1] at h⊢
    exact⟨l,by simp,h,rfl⟩
theorem Fl{run:List bp→y6}{a b:Term}:∀{ls:List (List bp)}{out:List Case},(n8 run a b ls out).code=1→(n8 run a b ls out).case.kind=4
 | [],out,h=>by rw[pn];rfl
 | l::ls,out,h=>by
   rw[nJ] at h⊢
   rcases aa ((run l).code=1) with h1|h1
   ·rw[if_pos h1] at h⊢
    exact Fl h
   ·rw[if_neg h1] at h
    exact absurd h h1
section
variable{s:dE}{au nums:List Term}
theorem FX:∀(f:Nat)(ab:List bp),((hY s au nums f ab).code=0→eS s (hY s au nums f ab).model ab=true)∧((hY s au nums f ab).code=1→1≤(hY s au nums f ab).case.kind)
 | 0,ab=>by
   constructor<;>(intro h;simp[hY,rJ] at h)
 | f+1,ab=>by
   rcases aa (12<(bc ab).length) with h12|h12
   ·rw[tU h12]
    constructor<;>(intro h;simp[rJ] at h)
   cases hc:kf (iZ au (closed au (bc ab)).1) ab with
   | some n=>
     rw[rv h12 hc]
     exact⟨fun h=>by simp at h,fun _=>by simp[Case.kind]⟩
   | none=>
   rcases aa ((bN (dQ nums ab)).code=1) with h1|h1
   ·rw[ue h12 hc h1]
    exact⟨fun h=>by simp at h,fun _=>by simp[Case.kind]⟩
   rcases aa ((bN (dQ nums ab)).code=0) with h0|h0
   ·cases hp:b6 nums.length (dY true au nums (closed au (bc ab)).1 ab) with
    | some q=>
      rw[uj h12 hc h0 hp]
      obtain⟨i1,i2⟩:=FX f (ab++[gJ (nums.getD q.1 aL) (nums.getD q.2 aL)])
      generalize hY s au nums f (ab++[gJ (nums.getD q.1 aL) (nums.getD q.2 aL)])=r at *
      unfold yd
      rcases aa (r.code=1) with hr|hr
      ·rw[if_pos hr]
       exact⟨fun h=>by simp at h,fun _=>by simp[Case.kind]⟩
      ·rw[if_neg hr]
       exact⟨fun h=>AM (i1 h),fun h=>absurd h hr⟩
    | none=>
    cases hq:b6 nums.length (dY false au nums (closed au (bc ab)).1 ab) with
    | some q=>
      rw[qh h12 hc h0 hp hq]
      refine⟨fun h=>?_,fun h=>by rw[Fl h];omega⟩
      obtain⟨l,hl,h2,h3⟩:=Iy h
      rw[h3]
      obtain⟨x,_,rfl⟩:=bD.1 hl
      exact AM ((FX f (ab++[x])).1 h2)
    | none=>
      rw[ru h12 hc h0 hp hq]
      rcases aa (eS s ⟨gY au nums (closed au (bc ab)).1 (bN (dQ nums ab)).aE⟩ ab=true) with hm|hm
      ·rw[if_pos hm]
       exact⟨fun _=>hm,fun h=>by simp at h⟩
      ·rw[if_neg hm]
       constructor<;>(intro h;simp[rJ] at h)
   ·rw[ud h12 hc h1 h0]
    constructor<;>(intro h;simp[rJ] at h)
theorem T1{ab:List bp}(h:(dS s ab).code=0):eS s (dS s ab).model ab=true:=by
 unfold dS at h⊢
 split at h
 ·rename_i hb
  rw[if_pos hb]
  exact(FX 13 ab).1 h
 ·simp at h
end
def aaQ(s:dE)(ab:List bp):List iy:=if eZ s ab then bc ab else []
def aaD(s:dE)(ab:List bp):List ib:=if eZ s ab then dQ (numsOf s ab) ab else []
def aal(s:dE)(ab:List bp):List Term:=if eZ s ab then numsOf s ab else []
theorem wV{α:Type}[DecidableEq α]:∀{l m:List α},l.Nodup→(∀x∈l,x∈m)→l.length≤m.length
 | [],_,_,_=>Nat.zero_le _
 | x::l,m,hn,hs=>by
   have hx:x∈m:=hs x (by simp)
   obtain⟨h1,h2⟩:=cE.1 hn
   have h3:=wV (l:=l) (m:=m.erase x) h2 fun y hy=>(List.mem_erase_of_ne (show y≠x from fun e=>h1 (by rw[←e];exact hy))).2 (hs y (by simp[hy]))
   have h4:=List.length_erase_of_mem hx
   have h5:=List.length_pos_of_mem hx
   simp only[List.length_cons]
   omega
mutual
theorem Fk:∀(t:Term)(l p:List Term),gQ p→t∈p→(∀u∈l,u∈p)→∀u∈dh l t,u∈p
 | .mk n ks,l,p,hp,ht,hl,u,hu=>by
   have h1:=nH ks l p hp (fun k hk=>hp _ ht k hk) hl
   rw[dh] at hu
   split at hu
   ·simp only[aR,ay,bn,or_false] at hu
    rcases hu with hu|rfl
    ·exact h1 u hu
    ·exact ht
   ·exact h1 u hu
theorem nH:∀(ts l p:List Term),gQ p→(∀t∈ts,t∈p)→(∀u∈l,u∈p)→∀u∈ba l ts,u∈p
 | [],l,p,_,_,hl,u,hu=>hl u (by simpa[ba] using hu)
 | t::ts,l,p,hp,ht,hl,u,hu=>by
   rw[ba] at hu
   exact nH ts _ p hp (fun x hx=>ht x (by simp[hx])) (Fk t l p hp (ht t (by simp)) hl) u hu
end
theorem MN{ts p:List Term}(h:∀t∈ts,isTerm t=true)(hp:gQ p)(hs:∀t∈ts,t∈p):(lQ ts).length≤p.length:=by
 rw[iB h]
 exact wV (kN ts [] (by simp)) (nH ts [] p hp hs (by simp))
theorem Jo{eqs:List iy}{t:Term}:t∈Gs eqs↔∃e∈eqs,t=e.A∨t=e.B:=by simp[Gs]
theorem BG{ab:List bp}{e:iy}:e∈bc ab↔∃l∈ab,l.atom.kind=1∧l.no=false∧e=⟨l.atom.A,l.atom.B⟩:=by
 simp only[bc,List.mem_filterMap]
 constructor
 ·rintro⟨l,hl,h⟩
  split at h
  ·rename_i hk
   exact⟨l,hl,hk.1,hk.2,(Option.some.inj h).symm⟩
  ·cases h
 ·rintro⟨l,hl,h1,h2,h3⟩
  exact⟨l,hl,by rw[if_pos ⟨h1,h2⟩,h3]⟩
section
variable{s:dE}{ab:List bp}(h:eZ s ab=true)
include h
theorem CC:∀l∈ab,fa s l.atom=true:=by
 simp only[eZ,ai,decide_eq_true_eq,cd] at h
 exact h.1.1.2
end
theorem Gn{c:List Nat}{a b i k:Nat}(hi:i<c.length)(hk:k<c.length)(h:cl c i=cl c k):cl (fV c a b) i=cl (fV c a b) k:=by
 rw[xf hi,xf hk,h]
theorem re{ae:List Term}:∀(eqs:List iy)(n:Nat)(c:List Nat)(af:List Step){i k:Nat},i<c.length→k<c.length→cl c i=cl c k→(iW ae n eqs c af).1.length=c.length∧cl (iW ae n eqs c af).1 i=cl (iW ae n eqs c af).1 k
 | [],_,_,_,_,_,_,_,h=>⟨rfl,h⟩
 | e::es,n,c,af,i,k,hi,hk,h=>by
   rw[iW]
   split
   ·exact re es (n+1) c af hi hk h
   ·have:=re (ae:=ae) es (n+1) (fV c (aH ae e.A) (aH ae e.B)) (af++[⟨aH ae e.A,aH ae e.B,n⟩]) (i:=i) (k:=k) (by rw[fD];exact hi) (by rw[fD];exact hk) (Gn hi hk h)
    rw[fD] at this
    exact this
theorem RV{c:List Nat}{a b:Nat}(ha:a<c.length)(hb:b<c.length):cl (fV c a b) a=cl (fV c a b) b:=(BM ha hb).2 (.inr (.inl ⟨rfl,rfl⟩))
theorem wZ{ae:List Term}:∀(eqs:List iy)(n:Nat)(c:List Nat)(af:List Step),c.length=ae.length→(∀e∈eqs,e.A∈ae∧e.B∈ae)→∀e∈eqs,cl (iW ae n eqs c af).1 (aH ae e.A)=cl (iW ae n eqs c af).1 (aH ae e.B)
 | [],_,_,_,_,_,e,he=>by simp at he
 | x::es,n,c,af,hc,ki,e,he=>by
   have hx:=ki x (by simp)
   have pA:aH ae x.A<c.length:=by rw[hc];exact bx hx.1
   have pB:aH ae x.B<c.length:=by rw[hc];exact bx hx.2
   rw[iW]
   split
   ·rename_i hs
    rcases ay.1 he with rfl|he
    ·exact(re es (n+1) c af pA pB hs).2
    ·exact wZ es (n+1) c af hc (fun y hy=>ki y (by simp[hy])) e he
   ·rcases ay.1 he with rfl|he
    ·exact(re es (n+1) _ _ (by rw[fD];exact pA) (by rw[fD];exact pB) (RV pA pB)).2
    ·exact wZ es (n+1) _ _ (by rw[fD];exact hc) (fun y hy=>ki y (by simp[hy])) e he
theorem s9{ae:List Term}:∀(eqs:List iy)(n:Nat)(c:List Nat)(af:List Step),(iW ae n eqs c af).1.length=c.length
 | [],_,_,_=>rfl
 | e::es,n,c,af=>by
   rw[iW]
   split
   ·exact s9 es (n+1) c af
   ·rw[s9 es (n+1),fD]
theorem Ar{ae:List Term}:∀(f:Nat)(c:List Nat)(af:List Step){i k:Nat},i<c.length→k<c.length→cl c i=cl c k→cl (kh ae f c af).1 i=cl (kh ae f c af).1 k
 | 0,_,_,_,_,_,_,h=>h
 | f+1,c,af,i,k,hi,hk,h=>by
   rw[kh]
   split
   ·exact h
   ·exact Ar f _ _ (by rw[fD];exact hi) (by rw[fD];exact hk) (Gn hi hk h)
theorem PB{ae:List Term}{eqs:List iy}(ki:∀e∈eqs,e.A∈ae∧e.B∈ae){e:iy}(he:e∈eqs):fS ae (closed ae eqs).1 e.A e.B=true:=by
 have hl:(given ae eqs).1.length=ae.length:=by rw[given,s9,fN]
 have h1:=ki e he
 refine decide_eq_true (Ar _ _ _ (by rw[hl];exact bx h1.1) (by rw[hl];exact bx h1.2) ?_)
 exact wZ eqs 0 _ _ fN ki e he
end Go.Mod
