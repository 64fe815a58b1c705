/-
  Plain laws on literals that are decided: their terms and numbers stay the same where more is told of these. No program is walked here.
-/
import Derived.Test.YtpidddienjoleaaGreatKCE
import Derived.Test.YtpidddienjoleaaGreatKCEk
import Derived.Test.YtpidddienjoleaaGreatKCDa
import Derived.Test.YtpidddienjoleaaGreatKCEb
set_option linter.unusedVariables false
set_option linter.unusedSimpArgs false
namespace Go.Mod
open Go.Eng
set_option maxRecDepth 100000
theorem J8{l:List Term}{t:Term}(h:dU l)(ht:∀k∈t.kids,k∈l):dU (l++[t]):=by
 intro u hu k hk
 rcases List.mem_append.1 hu with hu|hu
 ·exact List.mem_append_left _ (h u hu k hk)
 ·simp only[List.mem_cons,List.not_mem_nil,or_false] at hu
  subst hu
  exact List.mem_append_left _ (ht k hk)
mutual
theorem tV:∀(t:Term)(l:List Term),dU l→dU (aW l t)
 | .mk n ks,l,h=>by
   have h1:=fA ks l h
   rw[aW]
   split
   ·exact J8 h1 (km ks l)
   ·exact h1
theorem fA:∀(ts:List Term)(l:List Term),dU l→dU (ak l ts)
 | [],l,h=>by rw[ak];exact h
 | t::ts,l,h=>by
   rw[ak]
   exact fA ts _ (tV t l h)
end
mutual
theorem vD:∀(t:Term)(l:List Term),l.Nodup→(aW l t).Nodup
 | .mk n ks,l,h=>by
   have h1:=fR ks l h
   rw[aW]
   split
   ·rename_i hlt
    refine List.nodup_append.2 ⟨h1,by simp,fun x hx y hy e=>?_⟩
    simp only[List.mem_cons,List.not_mem_nil,or_false] at hy
    rw[e,hy] at hx
    have:=df.2 hx
    omega
   ·exact h1
theorem fR:∀(ts:List Term)(l:List Term),l.Nodup→(ak l ts).Nodup
 | [],l,h=>by rw[ak];exact h
 | t::ts,l,h=>by
   rw[ak]
   exact fR ts _ (vD t l h)
end
mutual
theorem CF:∀(t:Term)(l:List Term),dU l→t∈l→aW l t=l
 | .mk n ks,l,h,ht=>by
   have h1:=lR ks l h fun k hk=>h _ ht k hk
   rw[aW,h1]
   rw[if_neg (by have:=df.2 ht;omega)]
theorem lR:∀(ts:List Term)(l:List Term),dU l→(∀t∈ts,t∈l)→ak l ts=l
 | [],l,_,_=>by rw[ak]
 | t::ts,l,h,ht=>by
   rw[ak,CF t l h (ht t (by simp))]
   exact lR ts l h fun u hu=>ht u (List.mem_cons_of_mem _ hu)
end
theorem yJ(l:List Term)(xs ys:List Term):ak l (xs++ys)=ak (ak l xs) ys:=by
 rw[b8,b8,b8,List.foldl_append]
theorem sM(a b:List aG):bq (a++b)=bq a++bq b:=by simp[bq]
theorem nq{lits:List aG}{t:Term}:t∈bq lits↔∃l∈lits,t∈aI l.atom:=by simp[bq]
structure dt(s:bJ)(lits:List aG):Prop where
 sig:bT s=true
 fit:∀l∈lits,Fit (numsOf s lits) l
 n24:(aA lits).length≤24
 n4:(numsOf s lits).length≤4
section
variable{s:bJ}{lits:List aG}
theorem sx(h:bO s lits=true):dt s lits:=by
 obtain⟨h1,h2,h3,h4,h5,h6,h7,h8⟩:=nT h
 exact⟨h5,h1,h8,h3⟩
variable(h:dt s lits)
include h
theorem dt.wf:∀l∈lits,aX l.atom=true:=fun l hl=>(h.fit l hl).wf
theorem dt.all:∀t∈bq lits,isTerm t=true:=(c6 h.wf).2
theorem dt.yA:aA lits=ak [] (bq lits):=by rw[eY,dq h.all]
theorem dt.term:∀t∈aA lits,isTerm t=true:=by rw[eY];exact gl h.all
theorem dt.kids:dU (aA lits):=by rw[h.yA];exact fA _ _ fun t ht=>by simp at ht
theorem dt.nodup:(aA lits).Nodup:=by rw[h.yA];exact fR _ _ (by simp)
theorem dt.has:∀l∈lits,∀t∈aI l.atom,t∈aA lits:=fun l hl t ht=>by
 rw[eY]
 exact ct h.all t (nq.2 ⟨l,hl,ht⟩)
omit h in
theorem mj:∀t∈numsOf s lits,t∈aA lits:=fun t ht=>(List.mem_filter.1 ht).1
theorem dt.num:∀t∈numsOf s lits,isTerm t=true:=fun t ht=>h.term t (mj t ht)
theorem dt.xN:(numsOf s lits).Nodup:=h.nodup.filter _
theorem dt.eqs:∀e∈aB lits,e.A∈aA lits∧e.B∈aA lits∧(e.A∈numsOf s lits↔e.B∈numsOf s lits):=by
 intro e he
 simp only[aB,List.mem_filterMap] at he
 obtain⟨l,hl,e1⟩:=he
 split at e1
 ·rename_i hk
  simp only[Option.some.injEq] at e1
  have hm:aI l.atom=[l.atom.A,l.atom.B]:=by simp[aI,hk.1]
  rw[←e1]
  exact⟨h.has l hl _ (by rw[hm];simp),h.has l hl _ (by rw[hm];simp),(h.fit l hl).eq hk.1⟩
 ·cases e1
theorem dt.same{l:aG}(hw:aX l.atom=true)(hin:∀t∈aI l.atom,t∈aA lits):aA (lits++[l])=aA lits:=by
 have hall:∀t∈bq (lits++[l]),isTerm t=true:=by
  rw[sM]
  intro t ht
  rcases List.mem_append.1 ht with ht|ht
  ·exact h.all t ht
  ·obtain⟨l',hl',ht2⟩:=nq.1 ht
   simp only[List.mem_cons,List.not_mem_nil,or_false] at hl'
   rw[hl'] at ht2
   exact(fP hw).2 t ht2
 rw[eY,dq hall,sM,yJ,←h.yA]
 refine lR _ _ h.kids fun t ht=>?_
 obtain⟨l',hl',ht2⟩:=nq.1 ht
 simp only[List.mem_cons,List.not_mem_nil,or_false] at hl'
 rw[hl'] at ht2
 exact hin t ht2
theorem dt.more{l:aG}(hf:Fit (numsOf s lits) l)(hin:∀t∈aI l.atom,t∈aA lits):dt s (lits++[l])∧aA (lits++[l])=aA lits∧numsOf s (lits++[l])=numsOf s lits:=by
 have e1:=h.same hf.wf hin
 have e2:numsOf s (lits++[l])=numsOf s lits:=by unfold numsOf;rw[e1]
 refine⟨⟨h.sig,fun x hx=>?_,by rw[e1];exact h.n24,by rw[e2];exact h.n4⟩,e1,e2⟩
 rw[e2]
 rcases List.mem_append.1 hx with hx|hx
 ·exact h.fit x hx
 ·simp only[List.mem_cons,List.not_mem_nil,or_false] at hx
  rw[hx];exact hf
omit h in
theorem Di{a b:Term}:aI (eO a b).atom=[a,b]:=rfl
omit h in
theorem zM{a b:Term}:∀t∈aI (cP a b).atom,t=a∨t=b:=by
 intro t ht
 unfold cP at ht
 split at ht
 ·simp[aI] at ht;exact ht.symm
 ·simp[aI] at ht;exact ht
theorem dt.eq{a b:Term}(ha:a∈numsOf s lits)(hb:b∈numsOf s lits):dt s (lits++[eO a b])∧aA (lits++[eO a b])=aA lits∧numsOf s (lits++[eO a b])=numsOf s lits:=by
 refine h.more (PX ha hb (h.num a ha) (h.num b hb)) fun t ht=>?_
 rw[Di] at ht
 simp only[List.mem_cons,List.not_mem_nil,or_false] at ht
 rcases ht with rfl|rfl
 ·exact mj _ ha
 ·exact mj _ hb
theorem dt.less{a b:Term}(ha:a∈numsOf s lits)(hb:b∈numsOf s lits)(hne:a≠b):dt s (lits++[cP a b])∧aA (lits++[cP a b])=aA lits∧numsOf s (lits++[cP a b])=numsOf s lits:=by
 refine h.more (Kb ha hb (h.num a ha) (h.num b hb) hne) fun t ht=>?_
 rcases zM t ht with rfl|rfl
 ·exact mj _ ha
 ·exact mj _ hb
end
def I5(nums:List Term)(c:List Nat)(e:e6):List Nat:=if a8 nums e.A<0 then c else dD c (au nums e.A) (au nums e.B)
def RA(nums:List Term)(eqs:List e6):List Nat:=eqs.foldl (I5 nums) (List.range nums.length)
def gC(i k n:Nat):List (Nat×Nat):=(List.range' k (n-k)).map (fun k=>(i,k))++bo (i+1) n
theorem nN{i n:Nat}(h:i<n):bo i n=gC i (i+1) n:=vY h
theorem pd{i k n:Nat}(h:k<n):gC i k n=(i,k)::gC i (k+1) n:=by
 unfold gC
 rw[jh h];rfl
theorem qm{i k n:Nat}(h:n≤k):gC i k n=bo (i+1) n:=by
 unfold gC
 rw[j6 h];rfl
end Go.Mod
namespace Go.Mod
open Go.Eng
set_option maxRecDepth 100000
def ou{α:Type}(p:α→Bool)(l:List α)(i:Nat):Option Nat:=(List.range' i (l.length-i)).find? fun i=>match l[i]? with|none=>false|some x=>p x
theorem Gg{α:Type}(p:α→Bool)(l:List α):iL p l=ou p l 0:=by
 unfold iL ou
 rw[List.range_eq_range',Nat.sub_zero]
 rfl
theorem EK{α:Type}{p:α→Bool}{l:List α}{i:Nat}(h:i<l.length):ou p l i=if p l[i] then some i else ou p l (i+1):=by
 unfold ou
 rw[jh h,List.find?_cons,List.getElem?_eq_getElem h]
 cases hp:p l[i]<;>simp[hp]
theorem E1{α:Type}{p:α→Bool}{l:List α}{i:Nat}(h:l.length≤i):ou p l i=none:=by
 unfold ou
 rw[j6 h];rfl
def RY:Option Nat→Int
 | none=>-1
 | some n=>n
def told(lits:List aG)(l:aG):Bool:=lits.any fun x=>(x.no == l.no)&&decide (x.atom=l.atom)
def RI(lits:List aG)(l:aG)(i:Nat):Bool:=(lits.drop i).any fun x=>(x.no == l.no)&&decide (x.atom=l.atom)
def eF(have_:Bool)(terms nums:List Term)(c:List Nat)(lits:List aG)(i k:Nat):Bool:=!linked nums lits i k&&(if have_ then dG terms c (nums.getD i ao) (nums.getD k ao) else(!cJ nums lits i k&& !cJ nums lits k i))
def Q1(terms nums:List Term)(eqs:List e6)(c:List Nat):List D:=[.bu (ai terms),.bu (ai nums),.bu (bj eqs),.bu (aN c)]
attribute [go_sem] Q1
def Rc(rows:List Row)(r:Row):List Row:=
 match rows.dropWhile fun x=>bI x r with
 | []=>rows.takeWhile (fun x=>bI x r)++[r]
 | x::xs=>if x.name=r.name∧x.args=r.args then rows else rows.takeWhile (fun x=>bI x r)++r::x::xs
theorem Ga{rows:List Row}{r x:Row}(h:x∈putRow rows r):x∈rows∨x=r:=by
 unfold putRow at h
 have hs1:∀x∈rows.takeWhile (fun x=>decide (bK x r<0)),x∈rows:=fun x hx=>(List.takeWhile_sublist _).subset hx
 have hs2:∀x∈rows.dropWhile (fun x=>decide (bK x r<0)),x∈rows:=fun x hx=>(List.dropWhile_sublist _).subset hx
 simp only at h
 split at h
 ·rcases List.mem_append.1 h with h|h
  ·exact .inl (hs1 _ h)
  ·exact .inr (by simpa using h)
 ·rename_i y ys hd
  rw[hd] at hs2
  split at h
  ·exact .inl h
  ·rcases List.mem_append.1 h with h|h
   ·exact .inl (hs1 _ h)
   ·rcases List.mem_cons.1 h with h|h
    ·exact .inr h
    ·exact .inl (hs2 _ h)
theorem EW(rows:List Row)(r:Row):(putRow rows r).length≤rows.length+1:=by
 unfold putRow
 have h:=congrArg List.length (List.takeWhile_append_dropWhile (p:=fun x=>decide (bK x r<0)) (l:=rows))
 rw[List.length_append] at h
 simp only
 split
 ·rename_i hd
  rw[hd] at h
  simp at h⊢
  omega
 ·rename_i y ys hd
  rw[hd] at h
  split
  ·omega
  ·simp at h⊢
   omega
def nr(p:Row→Bool)(rows:List Row)(i:Nat):Prop:=rows.takeWhile p=rows.take i++(rows.drop i).takeWhile p∧rows.dropWhile p=(rows.drop i).dropWhile p
theorem nr.zero(p:Row→Bool)(rows:List Row):nr p rows 0:=⟨by simp,by simp⟩
theorem nr.step{p:Row→Bool}{rows:List Row}{i:Nat}(h:nr p rows i)(hi:i<rows.length)(hp:p rows[i]=true):nr p rows (i+1):=by
 obtain⟨h1,h2⟩:=h
 rw[List.drop_eq_getElem_cons hi] at h1 h2
 rw[List.takeWhile_cons,if_pos hp] at h1
 rw[List.dropWhile_cons,if_pos hp] at h2
 refine⟨?_,h2⟩
 rw[h1,List.take_add_one,List.getElem?_eq_getElem hi,List.append_assoc]
 rfl
theorem nr.stop{p:Row→Bool}{rows:List Row}{i:Nat}(h:nr p rows i)(hi:i<rows.length)(hp:p rows[i]=false):rows.takeWhile p=rows.take i∧rows.dropWhile p=rows[i]::rows.drop (i+1):=by
 obtain⟨h1,h2⟩:=h
 rw[List.drop_eq_getElem_cons hi] at h1 h2
 rw[List.takeWhile_cons,if_neg (by rw[hp];simp),List.append_nil] at h1
 rw[List.dropWhile_cons,if_neg (by rw[hp];simp)] at h2
 exact⟨h1,h2⟩
theorem nr.done{p:Row→Bool}{rows:List Row}{i:Nat}(h:nr p rows i)(hi:rows.length≤i):rows.takeWhile p=rows∧rows.dropWhile p=[]:=by
 obtain⟨h1,h2⟩:=h
 rw[List.drop_of_length_le hi] at h1 h2
 rw[List.take_of_length_le hi] at h1
 exact⟨by simpa using h1,h2⟩
theorem LA{terms nums:List Term}{c:List Nat}{ay:List Rat}{t:Term}(hc:∀x∈c,x≤1000)(hv:∀x∈ay,bl x=true):bl (iu terms nums c ay t)=true:=by
 have hle:cl c (au terms t)≤1000:=by
  rcases Nat.lt_or_ge (au terms t) c.length with h1|h1
  ·exact hc _ (yz h1)
  ·rw[On h1];omega
 unfold iu
 split
 ·exact Dy (by omega) (by omega)
 ·rcases Nat.lt_or_ge (au nums t) ay.length with h1|h1
  ·exact hv _ (jW h1)
  ·rw[List.getD_eq_getElem?_getD,List.getElem?_eq_none h1]
   exact Dy (by omega) (by omega)
theorem EZ{terms nums:List Term}{c:List Nat}{ay:List Rat}{t:Term}(hc:∀x∈c,x≤1000)(hv:∀x∈ay,bl x=true):bF (eQ terms nums c ay t).args=true:=by
 unfold bF
 refine List.all_eq_true.2 fun x hx=>?_
 simp only[eQ,List.mem_map] at hx
 obtain⟨k,_,rfl⟩:=hx
 exact LA hc hv
theorem LR{list:List fq}(h:(bf list).code=0):(bf list).ay.length=4∧∀x∈(bf list).ay,bl x=true:=by
 have hall:∀v,lE list v=true→v.length=4∧∀x∈v,bl x=true:=fun v hv=>by
  simp only[lE,qc,Bool.and_eq_true,decide_eq_true_eq,List.all_eq_true] at hv
  exact hv.2.1
 have hend:∀s0 s1 s2 s3 rows,(gr list s0 s1 s2 s3 rows).code=0→(gr list s0 s1 s2 s3 rows).ay.length=4∧∀x∈(gr list s0 s1 s2 s3 rows).ay,bl x=true:=fun s0 s1 s2 s3 rows h=>by
  unfold gr at h⊢
  split at h
  ·split at h<;>simp at h
  ·split at h
   ·simp at h
   ·split at h
    ·rename_i hf
     rw[if_pos hf]
     exact hall _ hf
    ·simp at h
 unfold bf at h⊢
 split at h
 ·rename_i hs
  rw[if_pos hs]
  split at h
  ·simp at h
  ·split at h
   ·simp at h
   ·split at h
    ·simp at h
    ·split at h
     ·simp at h
     ·exact hend _ _ _ _ _ h
 ·simp at h
end Go.Mod
namespace Go.Mod
open Go.Eng
set_option maxRecDepth 100000
theorem vn{t:Term}(h:isTerm t=true):t.kids.length≤2:=by
 have h1:=cZ h
 cases t with
 | mk n ks=>
   simp only[aE,Bool.and_eq_true,decide_eq_true_eq] at h1
   exact h1.2.1
section
variable{s:bJ}{lits:List aG}(h:dt s lits)
include h
theorem dt.QP:∀t∈aA lits,t.kids.length≤1000:=fun t ht=>by
 have:=vn (h.term t ht)
 omega
theorem dt.Rg:(aA lits).length≤1000:=by
 have:=h.n24
 omega
theorem dt.Hz:∀e∈aB lits,e.A∈aA lits∧e.B∈aA lits:=fun e he=>⟨(h.eqs e he).1,(h.eqs e he).2.1⟩
theorem dt.QV:(closed (aA lits) (aB lits)).1.length=(aA lits).length:=yU (jg h.Hz)
theorem dt.Nd:∀x∈(closed (aA lits) (aB lits)).1,x≤1000:=by
 have hk:=jg h.Hz
 have h1:=qP hk _ (Nat.le_refl _)
 rw[←hk.2] at h1
 intro x hx
 have h2:=K2 hx
 have h3:(List.range (aA lits).length).sum≤(List.range (aA lits).length).length*23:=ml fun x hx=>by
  have:=List.mem_range.1 hx
  have:=h.n24
  omega
 have h4:(List.range (aA lits).length).length*23≤24*23:=Nat.mul_le_mul_right _ (by simpa using h.n24)
 omega
theorem dt.Pr:∀l∈lits,l.atom.kind=1→l.atom.A∈aA lits∧l.atom.B∈aA lits:=fun l hl hk=>by
 have hm:aI l.atom=[l.atom.A,l.atom.B]:=by simp[aI,hk]
 exact⟨h.has l hl _ (by rw[hm];simp),h.has l hl _ (by rw[hm];simp)⟩
end
theorem B8{terms nums:List Term}{c:List Nat}{lits:List aG}{i k:Nat}(h:eF false terms nums c lits i k=true):jD nums lits i k=true:=h
theorem sm{v:Bool}{terms nums:List Term}{c:List Nat}{lits:List aG}{i k:Nat}(h:eF v terms nums c lits i k=true):linked nums lits i k=false:=by
 unfold eF at h
 cases hl:linked nums lits i k
 ·rfl
 ·rw[hl] at h;simp at h
def Next(s:bJ)(lits:List aG)(l:aG):Prop:=dt s (lits++[l])∧aA (lits++[l])=aA lits∧numsOf s (lits++[l])=numsOf s lits∧room (numsOf s lits) (lits++[l])<room (numsOf s lits) lits
theorem HG{s:bJ}{lits:List aG}(h:dt s lits){i k:Nat}(h1:i<k)(h2:k<(numsOf s lits).length)(hl:linked (numsOf s lits) lits i k=false):Next s lits (eO ((numsOf s lits).getD i ao) ((numsOf s lits).getD k ao)):=by
 obtain⟨g1,g2,g3⟩:=h.eq (a:=(numsOf s lits).getD i ao) (b:=(numsOf s lits).getD k ao) (jW (by omega)) (jW h2)
 exact⟨g1,g2,g3,N0 h.xN h1 h2 hl⟩
theorem HT{s:bJ}{lits:List aG}(h:dt s lits){i k:Nat}(h1:i<k)(h2:k<(numsOf s lits).length):(numsOf s lits).getD i ao≠(numsOf s lits).getD k ao:=fun e=>by
 have a1:=nh h.xN (by omega:i<(numsOf s lits).length)
 have a2:=nh h.xN h2
 rw[da (by omega),da h2] at e
 rw[e] at a1
 omega
theorem Jr{s:bJ}{lits:List aG}(h:dt s lits){i k:Nat}(h1:i<k)(h2:k<(numsOf s lits).length)(hl:jD (numsOf s lits) lits i k=true):Next s lits (cP ((numsOf s lits).getD i ao) ((numsOf s lits).getD k ao))∧Next s lits (cP ((numsOf s lits).getD k ao) ((numsOf s lits).getD i ao)):=by
 have hne:=HT h h1 h2
 have hi:=jW (d:=ao) (by omega:i<(numsOf s lits).length)
 have hk:=jW (d:=ao) h2
 obtain⟨g1,g2,g3⟩:=h.less hi hk hne
 obtain⟨f1,f2,f3⟩:=h.less hk hi (Ne.symm hne)
 exact⟨⟨g1,g2,g3,AF h1 h2 hl (.inl rfl)⟩,⟨f1,f2,f3,AF h1 h2 hl (.inr rfl)⟩⟩
theorem EE{s:bJ}{lits:List aG}(h:dt s lits){i k:Nat}(h1:i<k)(h2:k<(numsOf s lits).length)(hl:jD (numsOf s lits) lits i k=true):∀l∈gu ((numsOf s lits).getD i ao) ((numsOf s lits).getD k ao),Next s lits l:=by
 have hlk:linked (numsOf s lits) lits i k=false:=sm (v:=false) (terms:=[]) (c:=[]) hl
 obtain⟨n1,n2⟩:=Jr h h1 h2 hl
 intro l hm
 simp only[gu,List.mem_cons,List.not_mem_nil,or_false] at hm
 rcases hm with rfl|rfl|rfl
 ·exact HG h h1 h2 hlk
 ·exact n1
 ·exact n2
theorem qI{run:List aG→vO}{a b:Term}{l:List aG}{ls:List (List aG)}{out:List Case}:ob run a b (l::ls) out=if(run l).code=1 then ob run a b ls (out++[(run l).case]) else⟨(run l).model,oY,(run l).code⟩:=rfl
theorem uC{run:List aG→vO}{a b:Term}{out:List Case}:ob run a b [] out=⟨iD,.mk 4 0 uy [] a b out,1⟩:=rfl
section
variable{s:bJ}{terms nums:List Term}{f:Nat}{lits:List aG}
theorem El(h:12<(aB lits).length):gg s terms nums (f+1) lits=yc:=by
 simp only[gg,if_pos h]
variable(h:¬12<(aB lits).length)
include h
theorem zY{n:Nat}(hc:iL (iO terms (closed terms (aB lits)).1) lits=some n):gg s terms nums (f+1) lits=⟨iD,.mk 1 n (iH terms (closed terms (aB lits)).2 (lits.getD n zK).atom.A (lits.getD n zK).atom.B) [] ao ao [],1⟩:=by
 simp only[gg,if_neg h,hc]
variable(hc:iL (iO terms (closed terms (aB lits)).1) lits=none)
include hc
theorem EA(hf:(bf (cL nums lits)).code=1):gg s terms nums (f+1) lits=⟨iD,.mk 2 0 uy (bf (cL nums lits)).times ao ao [],1⟩:=by
 simp only[gg,if_neg h,hc,if_pos hf]
theorem Ds(hf:(bf (cL nums lits)).code≠1)(hf2:(bf (cL nums lits)).code≠0):gg s terms nums (f+1) lits=yc:=by
 simp only[gg,if_neg h,hc,if_neg hf,if_pos hf2]
variable(hf:(bf (cL nums lits)).code=0)
include hf
theorem Ep{q:Nat×Nat}(hp:bp nums.length (eF true terms nums (closed terms (aB lits)).1 lits)=some q):gg s terms nums (f+1) lits=Dn (iH terms (closed terms (aB lits)).2 (nums.getD q.1 ao) (nums.getD q.2 ao)) (gg s terms nums f (lits++[eO (nums.getD q.1 ao) (nums.getD q.2 ao)])):=by
 have hp':bp nums.length (fun i k=>!linked nums lits i k&&dG terms (closed terms (aB lits)).1 (nums.getD i ao) (nums.getD k ao))=some q:=hp
 have h1:¬ (bf (cL nums lits)).code=1:=by omega
 simp only[gg,if_neg h,hc,if_neg h1,hf,ne_eq,not_true_eq_false,if_false,hp']
 rw[if_neg (by decide)]
variable(hp:bp nums.length (eF true terms nums (closed terms (aB lits)).1 lits)=none)
include hp
theorem sF{q:Nat×Nat}(hq:bp nums.length (eF false terms nums (closed terms (aB lits)).1 lits)=some q):gg s terms nums (f+1) lits=ob (gg s terms nums f) (nums.getD q.1 ao) (nums.getD q.2 ao) ((gu (nums.getD q.1 ao) (nums.getD q.2 ao)).map fun l=>lits++[l]) []:=by
 have hp':bp nums.length (fun i k=>!linked nums lits i k&&dG terms (closed terms (aB lits)).1 (nums.getD i ao) (nums.getD k ao))=none:=hp
 have hq':bp nums.length (fun i k=>!linked nums lits i k&&(!cJ nums lits i k&& !cJ nums lits k i))=some q:=hq
 have h1:¬ (bf (cL nums lits)).code=1:=by omega
 simp only[gg,if_neg h,hc,if_neg h1,hf,ne_eq,not_true_eq_false,if_false,hp',hq']
 rw[if_neg (by decide)]
variable(hq:bp nums.length (eF false terms nums (closed terms (aB lits)).1 lits)=none)
include hq
theorem zR:gg s terms nums (f+1) lits=if cQ s ⟨fS terms nums (closed terms (aB lits)).1 (bf (cL nums lits)).ay⟩ lits=true then⟨⟨fS terms nums (closed terms (aB lits)).1 (bf (cL nums lits)).ay⟩,oY,0⟩ else yc:=by
 have hp':bp nums.length (fun i k=>!linked nums lits i k&&dG terms (closed terms (aB lits)).1 (nums.getD i ao) (nums.getD k ao))=none:=hp
 have hq':bp nums.length (fun i k=>!linked nums lits i k&&(!cJ nums lits i k&& !cJ nums lits k i))=none:=hq
 have h1:¬ (bf (cL nums lits)).code=1:=by omega
 simp only[gg,if_neg h,hc,if_neg h1,hf,ne_eq,not_true_eq_false,if_false,hp',hq']
 rw[if_neg (by decide)]
end
end Go.Mod
namespace Go.Mod
open Go.Eng
set_option maxRecDepth 100000
def qi(e:Edge):List D:=[.val (.int .i64 (e.step:Int)),.val (.bool e.back)]
def a6(l:List Edge):List (List D):=l.map qi
theorem Bp(l:List Edge):(a6 l).length=l.length:=by simp[a6]
theorem mN{l:List Edge}{i:Nat}(h:i<l.length):row (a6 l) i=qi l[i]:=by simp[a6,row,List.getD,List.getElem?_eq_getElem h]
theorem Cb(l:List Edge):∀y∈a6 l,y.length=2:=by
 intro y hy
 obtain⟨t,_,rfl⟩:=List.mem_map.1 hy
 rfl
theorem jO(a b:List Edge):a6 a++a6 b=a6 (a++b):=by simp[a6]
theorem ib:a6 []=[]:=rfl
theorem iU(n:Edge)(l:List Edge):a6 (n::l)=qi n::a6 l:=rfl
theorem CC{l:List Edge}{i:Nat}{e:Edge}:(a6 l).set i (qi e)=a6 (l.set i e):=by simp[a6,List.map_set]
attribute [go_sem] Bp mN ib qi
structure Cy{α:Type}(l ys:List α)(i:Nat):Prop where
 len:ys.length=l.length
 at_:∀k,k<l.length→ys[k]?=if k<i∨l.length-1-k<i then l[l.length-1-k]? else l[k]?
theorem Cy.zero{α:Type}(l:List α):Cy l l 0:=⟨rfl,fun k _=>by simp⟩
theorem Cy.step{α:Type}{l ys:List α}{i j:Nat}(h:Cy l ys i)(hij:i<j)(hj:i+j+1=l.length)(hi':i<ys.length)(hj':j<ys.length):Cy l ((ys.set i ys[j]).set j ys[i]) (i+1):=by
 have hlen:=h.len
 refine⟨by simp[hlen],fun k hk=>?_⟩
 have e1:ys[j]?=some ys[j]:=List.getElem?_eq_getElem hj'
 have e2:ys[i]?=some ys[i]:=List.getElem?_eq_getElem hi'
 have a1:=h.at_ j (by omega)
 have a2:=h.at_ i (by omega)
 have a3:=h.at_ k hk
 rw[if_neg (by omega)] at a1 a2
 rw[e1] at a1
 rw[e2] at a2
 rcases Nat.lt_trichotomy k j with h1|h1|h1
 ·rw[List.getElem?_set_ne (by omega)]
  rcases Classical.em (k=i) with h2|h2
  ·subst h2
   rw[List.getElem?_set_self hi',if_pos (.inl (by omega)),a1]
   congr 1
   omega
  ·rw[List.getElem?_set_ne (by omega),a3]
   rcases Classical.em (k<i∨l.length-1-k<i) with h3|h3
   ·rw[if_pos h3,if_pos (by omega)]
   ·rw[if_neg h3,if_neg (by omega)]
 ·subst h1
  rw[List.getElem?_set_self (by simpa using hj'),if_pos (.inr (by omega)),a2]
  congr 1
  omega
 ·rw[List.getElem?_set_ne (by omega),List.getElem?_set_ne (by omega),a3,if_pos (by omega),if_pos (by omega)]
theorem Cy.done{α:Type}{l ys:List α}{i:Nat}(h:Cy l ys i)(hi:l.length≤2*i+1):ys=l.reverse:=by
 apply List.ext_getElem?
 intro k
 rcases Nat.lt_or_ge k l.length with h1|h1
 ·rw[h.at_ k h1,List.getElem?_reverse h1]
  rcases Classical.em (k<i∨l.length-1-k<i) with h2|h2
  ·rw[if_pos h2]
  ·rw[if_neg h2]
   congr 1
   omega
 ·rw[List.getElem?_eq_none (by rw[h.len];exact h1),List.getElem?_eq_none (by simpa using h1)]
def qX(disc:List (Nat×Edge)):List (Int×Value):=(c9 disc).map fun(v:Nat)=>((v:Int),Value.bool true)
def hX(disc:List (Nat×Edge)):List (Int×Value):=(disc.drop 1).map fun p=>((p.1:Int),Value.agg #[.int .i64 (p.2.step:Int),.bool p.2.back])
theorem sL(a b:List (Nat×Edge)):qX (a++b)=qX a++qX b:=by simp[qX,c9]
theorem kZ{a:List (Nat×Edge)}{p:Nat×Edge}(h:0<a.length):hX (a++[p])=hX a++[((p.1:Int),Value.agg #[.int .i64 (p.2.step:Int),.bool p.2.back])]:=by
 unfold hX
 rw[List.drop_append_of_le_length (by omega),List.map_append]
 rfl
theorem zU:∀{l:List Nat}{n:Nat},n∈l→dY (l.map fun(v:Nat)=>((v:Int),Value.bool true)) (n:Int)=some (.bool true)
 | v::l,n,h=>by
   simp only[List.map_cons,dY]
   rcases Classical.em ((n:Int)=(v:Int)) with h1|h1
   ·rw[if_pos h1]
   ·rw[if_neg h1]
    rcases List.mem_cons.1 h with h|h
    ·exact absurd (by rw[h]) h1
    ·exact zU h
theorem xV:∀{l:List Nat}{n:Nat},n∉l→dY (l.map fun(v:Nat)=>((v:Int),Value.bool true)) (n:Int)=none
 | [],_,_=>rfl
 | v::l,n,h=>by
   simp only[List.map_cons,dY]
   rw[if_neg (fun e=>h (by simp[show n=v by omega]))]
   exact xV fun h1=>h (List.mem_cons_of_mem _ h1)
theorem qY{disc:List (Nat×Edge)}{n:Nat}(h:n∈c9 disc):dY (qX disc) (n:Int)=some (.bool true):=zU h
theorem jP{disc:List (Nat×Edge)}{n:Nat}(h:n∉c9 disc):dY (qX disc) (n:Int)=none:=xV h
theorem so:∀{l:List (Nat×Edge)}{j:Nat}{v:Nat}{e:Edge},(l.map Prod.fst).Nodup→l[j]?=some (v,e)→dY (l.map fun p=>((p.1:Int),Value.agg #[.int .i64 (p.2.step:Int),.bool p.2.back])) (v:Int)=some (.agg #[.int .i64 (e.step:Int),.bool e.back])
 | [],j,v,e,_,h=>by simp at h
 | p::l,0,v,e,_,h=>by
   simp only[List.getElem?_cons_zero,Option.some.injEq] at h
   subst h
   simp[dY]
 | p::l,j+1,v,e,hn,h=>by
   simp only[List.getElem?_cons_succ] at h
   simp only[List.map_cons,List.nodup_cons] at hn
   have hm:v∈l.map Prod.fst:=List.mem_map.2 ⟨(v,e),List.mem_of_getElem? h,rfl⟩
   simp only[List.map_cons,dY]
   rw[if_neg (fun e1=>hn.1 (by rw[show p.1=v by omega];exact hm))]
   exact so hn.2 h
theorem zy{disc:List (Nat×Edge)}(hn:(c9 disc).Nodup){j v:Nat}{e:Edge}(hj:0<j)(h:disc[j]?=some (v,e)):dY (hX disc) (v:Int)=some (.agg #[.int .i64 (e.step:Int),.bool e.back]):=by
 refine so (j:=j-1) ?_ ?_
 ·rw[List.map_drop]
  exact hn.sublist (List.drop_sublist _ _)
 ·rw[List.getElem?_drop,show 1+(j-1)=j by omega]
  exact h
theorem kz{disc:List (Nat×Edge)}{n:Nat}(h:n∉c9 disc):dY (hX disc) (n:Int)=none:=by
 have key:∀{l:List (Nat×Edge)},(∀p∈l,p.1≠n)→dY (l.map fun p=>((p.1:Int),Value.agg #[.int .i64 (p.2.step:Int),.bool p.2.back])) (n:Int)=none:=by
  intro l
  induction l with
  | nil=>intro _;rfl
  | cons p l ih=>
    intro hl
    simp only[List.map_cons,dY]
    rw[if_neg (fun e=>hl p (by simp) (by omega))]
    exact ih fun q hq=>hl q (List.mem_cons_of_mem _ hq)
 refine key fun p hp e=>h ?_
 rw[←e]
 exact List.mem_map.2 ⟨p,List.mem_of_mem_drop hp,rfl⟩
def qR(steps:List Step)(k:Nat)(disc:List (Nat×Edge))(v:Nat):Prop:=∀j,j<k→(vA steps j=v→vB steps j∈c9 disc)∧(vB steps j=v→vA steps j∈c9 disc)
theorem EH(steps:List Step)(disc:List (Nat×Edge))(v:Nat):qR steps 0 disc v:=fun j hj=>by omega
theorem Gs{steps:List Step}{n:Nat}{disc:List (Nat×Edge)}{v:Nat}(h:qR steps n disc v):Seen steps n disc v:=h
theorem gE{steps:List Step}{k:Nat}{disc:List (Nat×Edge)}{v:Nat}(h:qR steps k disc v)(h1:vA steps k=v→vB steps k∈c9 disc)(h2:vB steps k=v→vA steps k∈c9 disc):qR steps (k+1) disc v:=fun j hj=>by
 rcases Nat.lt_or_ge j k with h3|h3
 ·exact h j h3
 ·obtain rfl:j=k:=by omega
  exact⟨h1,h2⟩
theorem uW{steps:List Step}{k:Nat}{a b:List (Nat×Edge)}{v:Nat}(h:qR steps k a v):qR steps k (a++b) v:=AX (n:=k) h
end Go.Mod
namespace Go.Mod
open Go.Eng
set_option maxRecDepth 100000
theorem AA:∀(rs:List Row)(t:Row),rs.takeWhile (fun x=>decide (bK x t<0))=rs.take (cut rs t)∧rs.dropWhile (fun x=>decide (bK x t<0))=rs.drop (cut rs t)
 | [],_=>by simp[cut]
 | r::rs,t=>by
   obtain⟨h1,h2⟩:=AA rs t
   rcases Classical.em (bK r t<0) with h|h
   ·simp[cut,h,h1,h2]
   ·simp[cut,h]
theorem yq(rs:List Row)(t:Row):putRow rs t=if found rs t then rs else rs.take (cut rs t)++t::rs.drop (cut rs t):=by
 obtain⟨h1,h2⟩:=AA rs t
 unfold putRow found
 simp only[h1,h2]
 rcases Nat.lt_or_ge (cut rs t) rs.length with h|h
 ·rw[List.drop_eq_getElem_cons h,List.getElem?_eq_getElem h]
  rcases Classical.em (bK rs[cut rs t] t=0) with hc|hc
  ·simp[hc]
  ·simp[hc]
 ·rw[List.drop_of_length_le h,List.getElem?_eq_none h]
  simp
theorem zm{a b:Rat}(ha:bl a=true)(hb:bl b=true)(h:a≠b):bH a b=true∨bH b a=true:=by
 rw[dM ha hb,dM hb ha]
 have h1:a.N*b.D≠b.N*a.D:=fun e=>h (z8 ha hb e)
 omega
theorem oX:∀{as bs:List Rat},bF as=true→bF bs=true→as.length=bs.length→as≠bs→dz as bs=true∨dz bs as=true
 | [],[],_,_,_,h=>absurd rfl h
 | [],b::bs,_,_,h,_=>by simp at h
 | a::as,[],_,_,h,_=>by simp at h
 | a::as,b::bs,h1,h2,h3,h4=>by
   simp only[bF,List.all_cons,Bool.and_eq_true] at h1 h2
   simp only[dz]
   rcases Classical.em (a=b) with h|h
   ·rw[if_pos h,if_pos h.symm]
    exact oX h1.2 h2.2 (by simpa using h3) fun e=>h4 (by rw[h,e])
   ·rw[if_neg h,if_neg (Ne.symm h)]
    exact zm h1.1 h2.1 h
theorem DP{a b:gL}(h:a≠b):cX a b=true∨cX b a=true:=by
 cases h1:cX a b
 ·cases h2:cX b a
  ·exact absurd (iY.1 (by simp[gn,h1,h2])) h
  ·exact .inr rfl
 ·exact .inl rfl
theorem zL{a b:Row}(ha:bF a.args=true)(hb:bF b.args=true)(h:¬ (a.name=b.name∧a.args=b.args)):bI a b=true∨bI b a=true:=by
 unfold bI
 rcases Classical.em (a.name=b.name) with h1|h1
 ·rw[if_pos h1,if_pos h1.symm]
  rcases Classical.em (a.args.length=b.args.length) with h2|h2
  ·rw[if_pos h2,if_pos h2.symm]
   exact oX ha hb h2 fun e=>h ⟨h1,e⟩
  ·rw[if_neg h2,if_neg (Ne.symm h2)]
   rcases Nat.lt_or_ge a.args.length b.args.length with h3|h3
   ·exact .inl (decide_eq_true h3)
   ·exact .inr (decide_eq_true (by omega))
 ·rw[if_neg h1,if_neg (Ne.symm h1)]
  exact DP h1
theorem AN{rs:List Row}{t:Row}(h1:∀r∈rs,bF r.args=true)(h2:rs.Pairwise (fun a b=>bI a b=true))(ht:bF t.args=true):eS rs t:=by
 refine List.Pairwise.imp_of_mem ?_ h2
 intro a b ha hb hab hbt
 have wa:=h1 a ha
 have wb:=h1 b hb
 rw[fI wb ht] at hbt
 rw[fI wa ht]
 exact iT wa wb ht hab hbt
theorem EO{rs:List Row}{t:Row}(h1:∀r∈rs,bF r.args=true)(h2:rs.Pairwise (fun a b=>bI a b=true))(ht:bF t.args=true):(putRow rs t).Pairwise (fun a b=>bI a b=true):=by
 have hm:=AN h1 h2 ht
 have hc:=fun k h=>kU hm k h
 rw[yq]
 cases hf:found rs t
 ·rw[if_neg (by simp)]
  have hsplit:=h2
  rw[←List.take_append_drop (cut rs t) rs] at hsplit
  obtain⟨p1,p2,p3⟩:=List.pairwise_append.1 hsplit
  have hlo:∀x∈rs.take (cut rs t),bI x t=true:=fun x hx=>by
   obtain⟨k,hk,rfl⟩:=List.mem_iff_getElem.1 hx
   have hk2:k<cut rs t:=by rw[List.length_take] at hk;omega
   have hk3:k<rs.length:=by rw[List.length_take] at hk;omega
   rw[List.getElem_take]
   exact(fI (h1 _ (List.getElem_mem hk3)) ht).1 ((hc k hk3).1 hk2)
  have hhi:∀y∈rs.drop (cut rs t),bI t y=true:=fun y hy=>by
   rcases Nat.lt_or_ge (cut rs t) rs.length with h|h
   ·have w0:=h1 _ (List.getElem_mem h)
    have n1:¬bK rs[cut rs t] t<0:=fun e=>by
     have:=(hc _ h).2 e
     omega
    have n2:bK rs[cut rs t] t≠0:=fun e=>by
     rw[found,List.getElem?_eq_getElem h] at hf
     simp[e] at hf
    have h0:bI t rs[cut rs t]=true:=by
     rcases zL w0 ht (fun e=>n2 ((pg w0 ht).2 e)) with h3|h3
     ·exact absurd ((fI w0 ht).2 h3) n1
     ·exact h3
    rw[List.drop_eq_getElem_cons h] at hy p2
    rcases List.mem_cons.1 hy with rfl|hy2
    ·exact h0
    ·exact iT ht w0 (h1 _ (List.mem_of_mem_drop hy2)) h0 ((List.pairwise_cons.1 p2).1 y hy2)
   ·rw[List.drop_of_length_le h] at hy
    simp at hy
  refine List.pairwise_append.2 ⟨p1,List.pairwise_cons.2 ⟨hhi,p2⟩,fun x hx y hy=>?_⟩
  rcases List.mem_cons.1 hy with rfl|hy
  ·exact hlo x hx
  ·exact p3 x hx y hy
 ·rw[if_pos rfl]
  exact h2
end Go.Mod
namespace Go.Mod
open Go.Eng
set_option maxRecDepth 100000
def nF(b:List Int)(s:bJ)(p:Int):aG×Int:=(⟨(gw b s p).1,decide (aZ b (gw b s p).2 3=0)⟩,(gw b s p).2+1)
theorem FV{b:List Int}(hb:pZ b){s:bJ}(h:bQ s){p:Int}(hp:0≤p):p≤(nF b s p).2∧(nF b s p).2≤p+61:=by
 have h1:=FB hb h hp
 simp only[nF]
 omega
def oL(b:List Int)(s:bJ):Nat→List aG→Int→List aG×Int
 | 0,out,p=>(out,p)
 | n+1,out,p=>oL b s n (if bO s (out++[(nF b s p).1]) then out++[(nF b s p).1] else out) (nF b s p).2
def xP(b:List Int)(s:bJ):Nat→List aG→Int→List aG×Int
 | 0,out,p=>(out,p)
 | n+1,out,p=>xP b s n (out++[(nF b s p).1]) (nF b s p).2
def oy(b:List Int)(s:bJ)(p:Int):List aG×Int:=oL b s (dF b p [3,4,5,2,6,1,0]).toNat [] (p+1)
def x6(b:List Int)(p:Int):bJ×List aG×Int:=
 let g:=EP b p
 let r:=oy b g.1 g.2
 let k:=aZ b r.2 48
 if k=0 then(g.1,r.1++[⟨(vl b g.1 (r.2+1)).1,false⟩],(vl b g.1 (r.2+1)).2) else
 if k=1 then(g.1,(xP b g.1 (7-r.1.length) r.1 (r.2+1)).1,(xP b g.1 (7-r.1.length) r.1 (r.2+1)).2) else
 if k=2 then((dh b (dh b g.1 (r.2+1)).1 (dh b g.1 (r.2+1)).2).1,r.1,(dh b (dh b g.1 (r.2+1)).1 (dh b g.1 (r.2+1)).2).2) else
 if k=3 then(g.1,r.1++[zK],r.2+1) else(g.1,r.1,r.2+1)
def CT(b:List Int):bJ×List aG:=((x6 b 0).1,(x6 b 0).2.1)
theorem HW{b:List Int}(hb:pZ b){s:bJ}(h:bQ s):∀(n:Nat)(out:List aG)(p:Int),0≤p→p≤(oL b s n out p).2∧(oL b s n out p).2≤p+n*61∧(oL b s n out p).1.length≤out.length+n
 | 0,out,p,_=>by simp[oL]
 | n+1,out,p,hp=>by
   have h1:=FV hb h hp
   have h2:=HW hb h n (if bO s (out++[(nF b s p).1]) then out++[(nF b s p).1] else out) (nF b s p).2 (by omega)
   have h3:(if bO s (out++[(nF b s p).1]) then out++[(nF b s p).1] else out).length≤out.length+1:=by
    split
    ·simp
    ·omega
   simp only[oL]
   omega
theorem M9{b:List Int}(hb:pZ b){s:bJ}(h:bQ s){p:Int}(hp:0≤p):p≤(oy b s p).2∧(oy b s p).2≤p+500∧(oy b s p).1.length≤6:=by
 have hm:=oO hb (p:=p) (l:=[3,4,5,2,6,1,0]) hp (by simp)
 simp only[List.mem_cons,List.not_mem_nil,or_false] at hm
 have hk:(dF b p [3,4,5,2,6,1,0]).toNat≤6:=by omega
 have:=HW hb h (dF b p [3,4,5,2,6,1,0]).toNat [] (p+1) (by omega)
 simp only[oy]
 simp only[List.length_nil] at this
 omega
end Go.Mod
namespace Go.Mod
open Go.Eng
set_option maxRecDepth 100000
theorem sa{s:bJ}{m:Model}{a c:List aG}(h:cQ s m (a++c)=true):cQ s m a=true:=by
 simp only[cQ,List.all_append,Bool.and_eq_true] at h⊢
 exact⟨h.1,h.2.1⟩
theorem zQ{run:List aG→vO}{a b:Term}:∀{ls:List (List aG)}{out:List Case},(ob run a b ls out).code=0→∃l∈ls,(run l).code=0∧(ob run a b ls out).model=(run l).model
 | [],out,h=>by rw[uC] at h;simp at h
 | l::ls,out,h=>by
   rw[qI] at h⊢
   rcases Classical.em ((run l).code=1) with h1|h1
   ·rw[if_pos h1] at h⊢
    obtain⟨x,hx,h2,h3⟩:=zQ h
    exact⟨x,List.mem_cons_of_mem _ hx,h2,h3⟩
   ·rw[if_neg h1] at h⊢
    exact⟨l,by simp,h,rfl⟩
theorem yY{run:List aG→vO}{a b:Term}:∀{ls:List (List aG)}{out:List Case},(ob run a b ls out).code=1→(ob run a b ls out).case.kind=4
 | [],out,h=>by rw[uC];rfl
 | l::ls,out,h=>by
   rw[qI] at h⊢
   rcases Classical.em ((run l).code=1) with h1|h1
   ·rw[if_pos h1] at h⊢
    exact yY h
   ·rw[if_neg h1] at h
    exact absurd h h1
section
variable{s:bJ}{terms nums:List Term}
theorem xb:∀(f:Nat)(lits:List aG),((gg s terms nums f lits).code=0→cQ s (gg s terms nums f lits).model lits=true)∧((gg s terms nums f lits).code=1→1≤(gg s terms nums f lits).case.kind)
 | 0,lits=>by
   constructor<;>(intro h;simp[gg,yc] at h)
 | f+1,lits=>by
   rcases Classical.em (12<(aB lits).length) with h12|h12
   ·rw[El h12]
    constructor<;>(intro h;simp[yc] at h)
   cases hc:iL (iO terms (closed terms (aB lits)).1) lits with
   | some n=>
     rw[zY h12 hc]
     exact⟨fun h=>by simp at h,fun _=>by simp[Case.kind]⟩
   | none=>
   rcases Classical.em ((bf (cL nums lits)).code=1) with h1|h1
   ·rw[EA h12 hc h1]
    exact⟨fun h=>by simp at h,fun _=>by simp[Case.kind]⟩
   rcases Classical.em ((bf (cL nums lits)).code=0) with h0|h0
   ·cases hp:bp nums.length (eF true terms nums (closed terms (aB lits)).1 lits) with
    | some q=>
      rw[Ep h12 hc h0 hp]
      obtain⟨i1,i2⟩:=xb f (lits++[eO (nums.getD q.1 ao) (nums.getD q.2 ao)])
      generalize gg s terms nums f (lits++[eO (nums.getD q.1 ao) (nums.getD q.2 ao)])=r at *
      unfold Dn
      rcases Classical.em (r.code=1) with hr|hr
      ·rw[if_pos hr]
       exact⟨fun h=>by simp at h,fun _=>by simp[Case.kind]⟩
      ·rw[if_neg hr]
       exact⟨fun h=>sa (i1 h),fun h=>absurd h hr⟩
    | none=>
    cases hq:bp nums.length (eF false terms nums (closed terms (aB lits)).1 lits) with
    | some q=>
      rw[sF h12 hc h0 hp hq]
      refine⟨fun h=>?_,fun h=>by rw[yY h];omega⟩
      obtain⟨l,hl,h2,h3⟩:=zQ h
      rw[h3]
      obtain⟨x,_,rfl⟩:=List.mem_map.1 hl
      exact sa ((xb f (lits++[x])).1 h2)
    | none=>
      rw[zR h12 hc h0 hp hq]
      rcases Classical.em (cQ s ⟨fS terms nums (closed terms (aB lits)).1 (bf (cL nums lits)).ay⟩ lits=true) with hm|hm
      ·rw[if_pos hm]
       exact⟨fun _=>hm,fun h=>by simp at h⟩
      ·rw[if_neg hm]
       constructor<;>(intro h;simp[yc] at h)
   ·rw[Ds h12 hc h1 h0]
    constructor<;>(intro h;simp[yc] at h)
theorem Ks{lits:List aG}(h:(gU s lits).code=0):cQ s (gU s lits).model lits=true:=by
 unfold gU at h⊢
 split at h
 ·rename_i hb
  rw[if_pos hb]
  exact(xb 13 lits).1 h
 ·simp at h
end
end Go.Mod
namespace Go.Mod
open Go.Eng
set_option maxRecDepth 100000
def jK(s:bJ)(lits:List aG):List e6:=if bO s lits then aB lits else []
def QD(s:bJ)(lits:List aG):List fq:=if bO s lits then cL (numsOf s lits) lits else []
def QM(s:bJ)(lits:List aG):List Term:=if bO s lits then numsOf s lits else []
theorem DC{α:Type}[DecidableEq α]:∀{l m:List α},l.Nodup→(∀x∈l,x∈m)→l.length≤m.length
 | [],_,_,_=>Nat.zero_le _
 | x::l,m,hn,hs=>by
   have hx:x∈m:=hs x (by simp)
   obtain⟨h1,h2⟩:=List.nodup_cons.1 hn
   have h3:=DC (l:=l) (m:=m.erase x) h2 fun y hy=>(List.mem_erase_of_ne (show y≠x from fun e=>h1 (by rw[←e];exact hy))).2 (hs y (by simp[hy]))
   have h4:=List.length_erase_of_mem hx
   have h5:=List.length_pos_of_mem hx
   simp only[List.length_cons]
   omega
mutual
theorem yb:∀(t:Term)(l p:List Term),dU p→t∈p→(∀u∈l,u∈p)→∀u∈aW l t,u∈p
 | .mk n ks,l,p,hp,ht,hl,u,hu=>by
   have h1:=jx ks l p hp (fun k hk=>hp _ ht k hk) hl
   rw[aW] at hu
   split at hu
   ·simp only[List.mem_append,List.mem_cons,List.not_mem_nil,or_false] at hu
    rcases hu with hu|rfl
    ·exact h1 u hu
    ·exact ht
   ·exact h1 u hu
theorem jx:∀(ts l p:List Term),dU p→(∀t∈ts,t∈p)→(∀u∈l,u∈p)→∀u∈ak l ts,u∈p
 | [],l,p,_,_,hl,u,hu=>hl u (by simpa[ak] using hu)
 | t::ts,l,p,hp,ht,hl,u,hu=>by
   rw[ak] at hu
   exact jx ts _ p hp (fun x hx=>ht x (by simp[hx])) (yb t l p hp (ht t (by simp)) hl) u hu
end
theorem DB{ts p:List Term}(h:∀t∈ts,isTerm t=true)(hp:dU p)(hs:∀t∈ts,t∈p):(aH ts).length≤p.length:=by
 rw[dq h]
 exact DC (fR ts [] (by simp)) (jx ts [] p hp hs (by simp))
theorem gI{eqs:List e6}{t:Term}:t∈bA eqs↔∃e∈eqs,t=e.A∨t=e.B:=by simp[bA]
theorem Ap{lits:List aG}{e:e6}:e∈aB lits↔∃l∈lits,l.atom.kind=1∧l.no=false∧e=⟨l.atom.A,l.atom.B⟩:=by
 simp only[aB,List.mem_filterMap]
 constructor
 ·rintro⟨l,hl,h⟩
  split at h
  ·rename_i hk
   exact⟨l,hl,hk.1,hk.2,(Option.some.inj h).symm⟩
  ·cases h
 ·rintro⟨l,hl,h1,h2,h3⟩
  exact⟨l,hl,by rw[if_pos ⟨h1,h2⟩,h3]⟩
section
variable{s:bJ}{lits:List aG}(h:bO s lits=true)
include h
theorem uI:∀l∈lits,b7 s l.atom=true:=by
 simp only[bO,Bool.and_eq_true,decide_eq_true_eq,List.all_eq_true] at h
 exact h.1.1.2
theorem rZ:∀e∈aB lits,dx s e=true:=fun e he=>by
 obtain⟨l,hl,h1,_,rfl⟩:=Ap.1 he
 have:=uI h l hl
 simp only[b7,h1,if_true,Bool.and_eq_true] at this
 exact this.2.2
theorem uN:(aB lits).length≤6:=Nat.le_trans (pr lits) (nT h).2.2.2.1
theorem sH:∀t∈bA (aB lits),t∈aA lits:=fun t ht=>by
 obtain⟨e,he,h1⟩:=gI.1 ht
 obtain⟨h2,h3⟩:=(sx h).Hz e he
 rcases h1 with rfl|rfl
 ·exact h2
 ·exact h3
theorem L4:jn s (aB lits)=true:=by
 have hg:=sx h
 have h1:=DB (ts:=bA (aB lits)) (fun t ht=>hg.term t (sH h t ht)) hg.kids (sH h)
 have h2:=uN h
 simp only[jn,Bool.and_eq_true,decide_eq_true_eq,List.all_eq_true]
 exact⟨⟨⟨hg.sig,by omega⟩,rZ h⟩,by have:=hg.n24;omega⟩
theorem FX{e:e6}(he:e∈aB lits):(bx s e.A).isSome=true∧(bx s e.B).isSome=true:=by
 have:=rZ h e he
 simp only[dx,Bool.and_eq_true,decide_eq_true_eq] at this
 exact⟨this.1,by rw[←this.2];exact this.1⟩
theorem GW{e:e6}(he:e∈aB lits):(∀t∈bA (aB lits)++[e.A,e.B],isTerm t=true)∧(aH (bA (aB lits)++[e.A,e.B])).length≤24:=by
 have hg:=sx h
 have h0:∀t∈bA (aB lits)++[e.A,e.B],t∈aA lits:=fun t ht=>by
  rcases List.mem_append.1 ht with ht|ht
  ·exact sH h t ht
  ·simp only[List.mem_cons,List.not_mem_nil,or_false] at ht
   exact sH h t (gI.2 ⟨e,he,ht⟩)
 refine⟨fun t ht=>hg.term t (h0 t ht),?_⟩
 have:=DB (ts:=bA (aB lits)++[e.A,e.B]) (fun t ht=>hg.term t (h0 t ht)) hg.kids h0
 have:=hg.n24
 omega
theorem EB{m:Model}(hm:cQ s m lits=true){e:e6}(he:e∈aB lits):b9 s m=true∧value m e.A=value m e.B:=by
 obtain⟨l,hl,h1,h2,rfl⟩:=Ap.1 he
 simp only[cQ,Bool.and_eq_true,List.all_eq_true,decide_eq_true_eq] at hm
 have h3:=hm.2 l hl
 refine⟨hm.1,?_⟩
 rw[fa,hm.1,uI h l hl] at h3
 simp only[Bool.and_self,if_true,lK,h1,Option.map_some,Option.some.injEq,h2,bne_iff_ne,ne_eq,Bool.not_eq_false,decide_eq_true_eq] at h3
 exact h3
end
theorem yo{c:List Nat}{a b i k:Nat}(hi:i<c.length)(hk:k<c.length)(h:cl c i=cl c k):cl (dD c a b) i=cl (dD c a b) k:=by
 rw[rR hi,rR hk,h]
theorem jL{parts:List Term}:∀(eqs:List e6)(n:Nat)(c:List Nat)(steps:List Step){i k:Nat},i<c.length→k<c.length→cl c i=cl c k→(dS parts n eqs c steps).1.length=c.length∧cl (dS parts n eqs c steps).1 i=cl (dS parts n eqs c steps).1 k
 | [],_,_,_,_,_,_,_,h=>⟨rfl,h⟩
 | e::es,n,c,steps,i,k,hi,hk,h=>by
   rw[dS]
   split
   ·exact jL es (n+1) c steps hi hk h
   ·have:=jL (parts:=parts) es (n+1) (dD c (au parts e.A) (au parts e.B)) (steps++[⟨au parts e.A,au parts e.B,n⟩]) (i:=i) (k:=k) (by rw[dH];exact hi) (by rw[dH];exact hk) (yo hi hk h)
    rw[dH] at this
    exact this
theorem Jf{c:List Nat}{a b:Nat}(ha:a<c.length)(hb:b<c.length):cl (dD c a b) a=cl (dD c a b) b:=(A8 ha hb).2 (.inr (.inl ⟨rfl,rfl⟩))
theorem n7{parts:List Term}:∀(eqs:List e6)(n:Nat)(c:List Nat)(steps:List Step),c.length=parts.length→(∀e∈eqs,e.A∈parts∧e.B∈parts)→∀e∈eqs,cl (dS parts n eqs c steps).1 (au parts e.A)=cl (dS parts n eqs c steps).1 (au parts e.B)
 | [],_,_,_,_,_,e,he=>by simp at he
 | x::es,n,c,steps,hc,hin,e,he=>by
   have hx:=hin x (by simp)
   have pA:au parts x.A<c.length:=by rw[hc];exact bC hx.1
   have pB:au parts x.B<c.length:=by rw[hc];exact bC hx.2
   rw[dS]
   split
   ·rename_i hs
    rcases List.mem_cons.1 he with rfl|he
    ·exact(jL es (n+1) c steps pA pB hs).2
    ·exact n7 es (n+1) c steps hc (fun y hy=>hin y (by simp[hy])) e he
   ·rcases List.mem_cons.1 he with rfl|he
    ·exact(jL es (n+1) _ _ (by rw[dH];exact pA) (by rw[dH];exact pB) (Jf pA pB)).2
    ·exact n7 es (n+1) _ _ (by rw[dH];exact hc) (fun y hy=>hin y (by simp[hy])) e he
theorem oP{parts:List Term}:∀(eqs:List e6)(n:Nat)(c:List Nat)(steps:List Step),(dS parts n eqs c steps).1.length=c.length
 | [],_,_,_=>rfl
 | e::es,n,c,steps=>by
   rw[dS]
   split
   ·exact oP es (n+1) c steps
   ·rw[oP es (n+1),dH]
theorem rT{parts:List Term}:∀(f:Nat)(c:List Nat)(steps:List Step){i k:Nat},i<c.length→k<c.length→cl c i=cl c k→cl (fv parts f c steps).1 i=cl (fv parts f c steps).1 k
 | 0,_,_,_,_,_,_,h=>h
 | f+1,c,steps,i,k,hi,hk,h=>by
   rw[fv]
   split
   ·exact h
   ·exact rT f _ _ (by rw[dH];exact hi) (by rw[dH];exact hk) (yo hi hk h)
theorem EY{parts:List Term}{eqs:List e6}(hin:∀e∈eqs,e.A∈parts∧e.B∈parts){e:e6}(he:e∈eqs):dG parts (closed parts eqs).1 e.A e.B=true:=by
 have hl:(given parts eqs).1.length=parts.length:=by rw[given,oP,List.length_range]
 have h1:=hin e he
 refine decide_eq_true (rT _ _ _ (by rw[hl];exact bC h1.1) (by rw[hl];exact bC h1.2) ?_)
 exact n7 eqs 0 _ _ List.length_range hin e he
end Go.Mod
