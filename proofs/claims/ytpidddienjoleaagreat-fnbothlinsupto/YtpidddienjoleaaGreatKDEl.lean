/-
  Plain laws on literals that are decided: their terms and numbers stay the same where more is told of these. No program is walked here.
-/
import Derived.Test.YtpidddienjoleaaGreatKDE
import Derived.Test.YtpidddienjoleaaGreatKDEk
import Derived.Test.YtpidddienjoleaaGreatKDDa
import Derived.Test.YtpidddienjoleaaGreatKDEb
set_option linter.unusedVariables false
set_option linter.unusedSimpArgs false
namespace Go.Mod
open Go.Eng
set_option maxRecDepth 100000
theorem Mp{l:List Term}{t:Term}(h:fL l)(ht:∀k∈t.kids,k∈l):fL (l++[t]):=by
 intro u hu k hk
 rcases List.mem_append.1 hu with hu|hu
 ·exact List.mem_append_left _ (h u hu k hk)
 ·simp only[List.mem_cons,List.not_mem_nil,or_false] at hu
  subst hu
  exact List.mem_append_left _ (ht k hk)
mutual
theorem uv:∀(t:Term)(l:List Term),fL l→fL (a8 l t)
 | .mk n ks,l,h=>by
   have h1:=il ks l h
   rw[a8]
   split
   ·exact Mp h1 (lp ks l)
   ·exact h1
theorem il:∀(ts:List Term)(l:List Term),fL l→fL (aq l ts)
 | [],l,h=>by rw[aq];exact h
 | t::ts,l,h=>by
   rw[aq]
   exact il ts _ (uv t l h)
end
mutual
theorem wG:∀(t:Term)(l:List Term),l.Nodup→(a8 l t).Nodup
 | .mk n ks,l,h=>by
   have h1:=iT ks l h
   rw[a8]
   split
   ·rename_i hlt
    refine List.nodup_append.2 ⟨h1,by simp,fun x hx y hy e=>?_⟩
    simp only[List.mem_cons,List.not_mem_nil,or_false] at hy
    rw[e,hy] at hx
    have:=bl.2 hx
    omega
   ·exact h1
theorem iT:∀(ts:List Term)(l:List Term),l.Nodup→(aq l ts).Nodup
 | [],l,h=>by rw[aq];exact h
 | t::ts,l,h=>by
   rw[aq]
   exact iT ts _ (wG t l h)
end
mutual
theorem Dx:∀(t:Term)(l:List Term),fL l→t∈l→a8 l t=l
 | .mk n ks,l,h,ht=>by
   have h1:=mh ks l h fun k hk=>h _ ht k hk
   rw[a8,h1]
   rw[if_neg (by have:=bl.2 ht;omega)]
theorem mh:∀(ts:List Term)(l:List Term),fL l→(∀t∈ts,t∈l)→aq l ts=l
 | [],l,_,_=>by rw[aq]
 | t::ts,l,h,ht=>by
   rw[aq,Dx t l h (ht t (by simp))]
   exact mh ts l h fun u hu=>ht u (List.mem_cons_of_mem _ hu)
end
theorem x5(l:List Term)(xs ys:List Term):aq l (xs++ys)=aq (aq l xs) ys:=by
 rw[cc,cc,cc,List.foldl_append]
theorem tQ(a b:List aE):br (a++b)=br a++br b:=by simp[br]
theorem j5{lits:List aE}{t:Term}:t∈br lits↔∃l∈lits,t∈aH l.atom:=by simp[br]
structure c8(s:bA)(lits:List aE):Prop where
 sig:bV s=true
 fit:∀l∈lits,Fit (numsOf s lits) l
 n24:(ai lits).length≤24
 n4:(numsOf s lits).length≤4
section
variable{s:bA}{lits:List aE}
theorem lj(h:bG s lits=true):c8 s lits:=by
 obtain⟨h1,h2,h3,h4,h5,h6,h7,h8⟩:=ju h
 exact⟨h5,h1,h8,h3⟩
variable(h:c8 s lits)
include h
theorem c8.wf:∀l∈lits,aZ l.atom=true:=fun l hl=>(h.fit l hl).wf
theorem c8.all:∀t∈br lits,isTerm t=true:=(c9 h.wf).2
theorem c8.sx:ai lits=aq [] (br lits):=by rw[eY,fw h.all]
theorem c8.term:∀t∈ai lits,isTerm t=true:=by rw[eY];exact jP h.all
theorem c8.kids:fL (ai lits):=by rw[h.sx];exact il _ _ fun t ht=>by simp at ht
theorem c8.nodup:(ai lits).Nodup:=by rw[h.sx];exact iT _ _ (by simp)
theorem c8.has:∀l∈lits,∀t∈aH l.atom,t∈ai lits:=fun l hl t ht=>by
 rw[eY]
 exact qY h.all t (j5.2 ⟨l,hl,ht⟩)
omit h in
theorem jv:∀t∈numsOf s lits,t∈ai lits:=fun t ht=>(List.mem_filter.1 ht).1
theorem c8.num:∀t∈numsOf s lits,isTerm t=true:=fun t ht=>h.term t (jv t ht)
theorem c8.m8:(numsOf s lits).Nodup:=h.nodup.filter _
theorem c8.eqs:∀e∈aI lits,e.A∈ai lits∧e.B∈ai lits∧(e.A∈numsOf s lits↔e.B∈numsOf s lits):=by
 intro e he
 simp only[aI,List.mem_filterMap] at he
 obtain⟨l,hl,e1⟩:=he
 split at e1
 ·rename_i hk
  simp only[Option.some.injEq] at e1
  have hm:aH l.atom=[l.atom.A,l.atom.B]:=by simp[aH,hk.1]
  rw[←e1]
  exact⟨h.has l hl _ (by rw[hm];simp),h.has l hl _ (by rw[hm];simp),(h.fit l hl).eq hk.1⟩
 ·cases e1
theorem c8.same{l:aE}(hw:aZ l.atom=true)(hin:∀t∈aH l.atom,t∈ai lits):ai (lits++[l])=ai lits:=by
 have hall:∀t∈br (lits++[l]),isTerm t=true:=by
  rw[tQ]
  intro t ht
  rcases List.mem_append.1 ht with ht|ht
  ·exact h.all t ht
  ·obtain⟨l',hl',ht2⟩:=j5.1 ht
   simp only[List.mem_cons,List.not_mem_nil,or_false] at hl'
   rw[hl'] at ht2
   exact(gi hw).2 t ht2
 rw[eY,fw hall,tQ,x5,←h.sx]
 refine mh _ _ h.kids fun t ht=>?_
 obtain⟨l',hl',ht2⟩:=j5.1 ht
 simp only[List.mem_cons,List.not_mem_nil,or_false] at hl'
 rw[hl'] at ht2
 exact hin t ht2
theorem c8.more{l:aE}(hf:Fit (numsOf s lits) l)(hin:∀t∈aH l.atom,t∈ai lits):c8 s (lits++[l])∧ai (lits++[l])=ai lits∧numsOf s (lits++[l])=numsOf s lits:=by
 have e1:=h.same hf.wf hin
 have e2:numsOf s (lits++[l])=numsOf s lits:=by unfold numsOf;rw[e1]
 refine⟨⟨h.sig,fun x hx=>?_,by rw[e1];exact h.n24,by rw[e2];exact h.n4⟩,e1,e2⟩
 rw[e2]
 rcases List.mem_append.1 hx with hx|hx
 ·exact h.fit x hx
 ·simp only[List.mem_cons,List.not_mem_nil,or_false] at hx
  rw[hx];exact hf
omit h in
theorem EF{a b:Term}:aH (eE a b).atom=[a,b]:=rfl
omit h in
theorem An{a b:Term}:∀t∈aH (ct a b).atom,t=a∨t=b:=by
 intro t ht
 unfold ct at ht
 split at ht
 ·simp[aH] at ht;exact ht.symm
 ·simp[aH] at ht;exact ht
theorem c8.eq{a b:Term}(ha:a∈numsOf s lits)(hb:b∈numsOf s lits):c8 s (lits++[eE a b])∧ai (lits++[eE a b])=ai lits∧numsOf s (lits++[eE a b])=numsOf s lits:=by
 refine h.more (Rv ha hb (h.num a ha) (h.num b hb)) fun t ht=>?_
 rw[EF] at ht
 simp only[List.mem_cons,List.not_mem_nil,or_false] at ht
 rcases ht with rfl|rfl
 ·exact jv _ ha
 ·exact jv _ hb
theorem c8.less{a b:Term}(ha:a∈numsOf s lits)(hb:b∈numsOf s lits)(hne:a≠b):c8 s (lits++[ct a b])∧ai (lits++[ct a b])=ai lits∧numsOf s (lits++[ct a b])=numsOf s lits:=by
 refine h.more (Nf ha hb (h.num a ha) (h.num b hb) hne) fun t ht=>?_
 rcases An t ht with rfl|rfl
 ·exact jv _ ha
 ·exact jv _ hb
end
def Kh(nums:List Term)(c:List Nat)(e:gk):List Nat:=if aF nums e.A<0 then c else dG c (al nums e.A) (al nums e.B)
def S0(nums:List Term)(eqs:List gk):List Nat:=eqs.foldl (Kh nums) (List.range nums.length)
def gY(i k n:Nat):List (Nat×Nat):=(List.range' k (n-k)).map (fun k=>(i,k))++bq (i+1) n
theorem oh{i n:Nat}(h:i<n):bq i n=gY i (i+1) n:=wR h
theorem pI{i k n:Nat}(h:k<n):gY i k n=(i,k)::gY i (k+1) n:=by
 unfold gY
 rw[jr h];rfl
theorem qX{i k n:Nat}(h:n≤k):gY i k n=bq (i+1) n:=by
 unfold gY
 rw[kz h];rfl
end Go.Mod
namespace Go.Mod
open Go.Eng
set_option maxRecDepth 100000
def oW{α:Type}(p:α→Bool)(l:List α)(i:Nat):Option Nat:=(List.range' i (l.length-i)).find? fun i=>match l[i]? with|none=>false|some x=>p x
theorem H8{α:Type}(p:α→Bool)(l:List α):iH p l=oW p l 0:=by
 unfold iH oW
 rw[List.range_eq_range',Nat.sub_zero]
 rfl
theorem Fw{α:Type}{p:α→Bool}{l:List α}{i:Nat}(h:i<l.length):oW p l i=if p l[i] then some i else oW p l (i+1):=by
 unfold oW
 rw[jr h,List.find?_cons,List.getElem?_eq_getElem h]
 cases hp:p l[i]<;>simp[hp]
theorem Gp{α:Type}{p:α→Bool}{l:List α}{i:Nat}(h:l.length≤i):oW p l i=none:=by
 unfold oW
 rw[kz h];rfl
def Ts:Option Nat→Int
 | none=>-1
 | some n=>n
def told(lits:List aE)(l:aE):Bool:=lits.any fun x=>(x.no == l.no)&&decide (x.atom=l.atom)
def S4(lits:List aE)(l:aE)(i:Nat):Bool:=(lits.drop i).any fun x=>(x.no == l.no)&&decide (x.atom=l.atom)
def dj(have_:Bool)(terms nums:List Term)(c:List Nat)(lits:List aE)(i k:Nat):Bool:=!linked nums lits i k&&(if have_ then eM terms c (nums.getD i ao) (nums.getD k ao) else(!cu nums lits i k&& !cu nums lits k i))
def RQ(terms nums:List Term)(eqs:List gk)(c:List Nat):List D:=[.bx (aj terms),.bx (aj nums),.bx (dz eqs),.bx (aP c)]
attribute [go_sem] RQ
def SD(rows:List Row)(r:Row):List Row:=
 match rows.dropWhile fun x=>bI x r with
 | []=>rows.takeWhile (fun x=>bI x r)++[r]
 | x::xs=>if x.name=r.name∧x.args=r.args then rows else rows.takeWhile (fun x=>bI x r)++r::x::xs
theorem GH{rows:List Row}{r x:Row}(h:x∈putRow rows r):x∈rows∨x=r:=by
 unfold putRow at h
 have hs1:∀x∈rows.takeWhile (fun x=>decide (bJ x r<0)),x∈rows:=fun x hx=>(List.takeWhile_sublist _).subset hx
 have hs2:∀x∈rows.dropWhile (fun x=>decide (bJ x r<0)),x∈rows:=fun x hx=>(List.dropWhile_sublist _).subset hx
 simp only at h
 split at h
 ·rcases List.mem_append.1 h with h|h
  ·exact .inl (hs1 _ h)
  ·exact .inr (by simpa using h)
 ·rename_i y ys hd
  rw[hd] at hs2
  split at h
  ·exact .inl h
  ·rcases List.mem_append.1 h with h|h
   ·exact .inl (hs1 _ h)
   ·rcases List.mem_cons.1 h with h|h
    ·exact .inr h
    ·exact .inl (hs2 _ h)
theorem GZ(rows:List Row)(r:Row):(putRow rows r).length≤rows.length+1:=by
 unfold putRow
 have h:=congrArg List.length (List.takeWhile_append_dropWhile (p:=fun x=>decide (bJ x r<0)) (l:=rows))
 rw[List.length_append] at h
 simp only
 split
 ·rename_i hd
  rw[hd] at h
  simp at h⊢
  omega
 ·rename_i y ys hd
  rw[hd] at h
  split
  ·omega
  ·simp at h⊢
   omega
def nM(p:Row→Bool)(rows:List Row)(i:Nat):Prop:=rows.takeWhile p=rows.take i++(rows.drop i).takeWhile p∧rows.dropWhile p=(rows.drop i).dropWhile p
theorem nM.zero(p:Row→Bool)(rows:List Row):nM p rows 0:=⟨by simp,by simp⟩
theorem nM.step{p:Row→Bool}{rows:List Row}{i:Nat}(h:nM p rows i)(hi:i<rows.length)(hp:p rows[i]=true):nM p rows (i+1):=by
 obtain⟨h1,h2⟩:=h
 rw[List.drop_eq_getElem_cons hi] at h1 h2
 rw[List.takeWhile_cons,if_pos hp] at h1
 rw[List.dropWhile_cons,if_pos hp] at h2
 refine⟨?_,h2⟩
 rw[h1,List.take_add_one,List.getElem?_eq_getElem hi,List.append_assoc]
 rfl
theorem nM.stop{p:Row→Bool}{rows:List Row}{i:Nat}(h:nM p rows i)(hi:i<rows.length)(hp:p rows[i]=false):rows.takeWhile p=rows.take i∧rows.dropWhile p=rows[i]::rows.drop (i+1):=by
 obtain⟨h1,h2⟩:=h
 rw[List.drop_eq_getElem_cons hi] at h1 h2
 rw[List.takeWhile_cons,if_neg (by rw[hp];simp),List.append_nil] at h1
 rw[List.dropWhile_cons,if_neg (by rw[hp];simp)] at h2
 exact⟨h1,h2⟩
theorem nM.done{p:Row→Bool}{rows:List Row}{i:Nat}(h:nM p rows i)(hi:rows.length≤i):rows.takeWhile p=rows∧rows.dropWhile p=[]:=by
 obtain⟨h1,h2⟩:=h
 rw[List.drop_of_length_le hi] at h1 h2
 rw[List.take_of_length_le hi] at h1
 exact⟨by simpa using h1,h2⟩
theorem Nc{terms nums:List Term}{c:List Nat}{aw:List Rat}{t:Term}(hc:∀x∈c,x≤1000)(hv:∀x∈aw,aS x=true):aS (gv terms nums c aw t)=true:=by
 have hle:cl c (al terms t)≤1000:=by
  rcases Nat.lt_or_ge (al terms t) c.length with h1|h1
  ·exact hc _ (xW h1)
  ·rw[PK h1];omega
 unfold gv
 split
 ·exact kJ (by omega) (by omega)
 ·rcases Nat.lt_or_ge (al nums t) aw.length with h1|h1
  ·exact hv _ (kP h1)
  ·rw[List.getD_eq_getElem?_getD,List.getElem?_eq_none h1]
   exact kJ (by omega) (by omega)
theorem yP{terms nums:List Term}{c:List Nat}{aw:List Rat}{t:Term}(hc:∀x∈c,x≤1000)(hv:∀x∈aw,aS x=true):bt (dY terms nums c aw t).args=true:=by
 unfold bt
 refine List.all_eq_true.2 fun x hx=>?_
 simp only[dY,List.mem_map] at hx
 obtain⟨k,_,rfl⟩:=hx
 exact Nc hc hv
theorem zc{list:List eQ}(h:(a7 list).code=0):(a7 list).aw.length=4∧∀x∈(a7 list).aw,aS x=true:=by
 have hall:∀v,fR list v=true→v.length=4∧∀x∈v,aS x=true:=fun v hv=>by
  simp only[fR,kM,Bool.and_eq_true,decide_eq_true_eq,List.all_eq_true] at hv
  exact hv.2.1
 have hend:∀s0 s1 s2 s3 rows,(fC list s0 s1 s2 s3 rows).code=0→(fC list s0 s1 s2 s3 rows).aw.length=4∧∀x∈(fC list s0 s1 s2 s3 rows).aw,aS x=true:=fun s0 s1 s2 s3 rows h=>by
  unfold fC at h⊢
  split at h
  ·split at h<;>simp at h
  ·split at h
   ·simp at h
   ·split at h
    ·rename_i hf
     rw[if_pos hf]
     exact hall _ hf
    ·simp at h
 unfold a7 at h⊢
 split at h
 ·rename_i hs
  rw[if_pos hs]
  split at h
  ·simp at h
  ·split at h
   ·simp at h
   ·split at h
    ·simp at h
    ·split at h
     ·simp at h
     ·exact hend _ _ _ _ _ h
 ·simp at h
end Go.Mod
namespace Go.Mod
open Go.Eng
set_option maxRecDepth 100000
theorem DQ{t:Term}(h:isTerm t=true):t.kids.length≤2:=by
 have h1:=du h
 cases t with
 | mk n ks=>
   simp only[aB,Bool.and_eq_true,decide_eq_true_eq] at h1
   exact h1.2.1
section
variable{s:bA}{lits:List aE}(h:c8 s lits)
include h
theorem c8.RG:∀t∈ai lits,t.kids.length≤1000:=fun t ht=>by
 have:=DQ (h.term t ht)
 omega
theorem c8.SK:(ai lits).length≤1000:=by
 have:=h.n24
 omega
theorem c8.Ig:∀e∈aI lits,e.A∈ai lits∧e.B∈ai lits:=fun e he=>⟨(h.eqs e he).1,(h.eqs e he).2.1⟩
theorem c8.Sp:(closed (ai lits) (aI lits)).1.length=(ai lits).length:=FF (lM h.Ig)
theorem c8.Iw:∀x∈(closed (ai lits) (aI lits)).1,x≤1000:=by
 have hk:=lM h.Ig
 have h1:=rn hk _ (Nat.le_refl _)
 rw[←hk.2] at h1
 intro x hx
 have h2:=Ls hx
 have h3:(List.range (ai lits).length).sum≤(List.range (ai lits).length).length*23:=mP fun x hx=>by
  have:=List.mem_range.1 hx
  have:=h.n24
  omega
 have h4:(List.range (ai lits).length).length*23≤24*23:=Nat.mul_le_mul_right _ (by simpa using h.n24)
 omega
theorem c8.Qr:∀l∈lits,l.atom.kind=1→l.atom.A∈ai lits∧l.atom.B∈ai lits:=fun l hl hk=>by
 have hm:aH l.atom=[l.atom.A,l.atom.B]:=by simp[aH,hk]
 exact⟨h.has l hl _ (by rw[hm];simp),h.has l hl _ (by rw[hm];simp)⟩
end
theorem F8(s:bA)(lits:List aE):(ai lits).filter (aY s)=numsOf s lits:=rfl
theorem sk{terms nums:List Term}{c:List Nat}{lits:List aE}{i k:Nat}(h:dj false terms nums c lits i k=true):jQ nums lits i k=true:=h
theorem nC{v:Bool}{terms nums:List Term}{c:List Nat}{lits:List aE}{i k:Nat}(h:dj v terms nums c lits i k=true):linked nums lits i k=false:=by
 unfold dj at h
 cases hl:linked nums lits i k
 ·rfl
 ·rw[hl] at h;simp at h
def Next(s:bA)(lits:List aE)(l:aE):Prop:=c8 s (lits++[l])∧ai (lits++[l])=ai lits∧numsOf s (lits++[l])=numsOf s lits∧room (numsOf s lits) (lits++[l])<room (numsOf s lits) lits
theorem C0{s:bA}{lits:List aE}(h:c8 s lits){i k:Nat}(h1:i<k)(h2:k<(numsOf s lits).length)(hl:linked (numsOf s lits) lits i k=false):Next s lits (eE ((numsOf s lits).getD i ao) ((numsOf s lits).getD k ao)):=by
 obtain⟨g1,g2,g3⟩:=h.eq (a:=(numsOf s lits).getD i ao) (b:=(numsOf s lits).getD k ao) (kP (by omega)) (kP h2)
 exact⟨g1,g2,g3,N3 h.m8 h1 h2 hl⟩
theorem I6{s:bA}{lits:List aE}(h:c8 s lits){i k:Nat}(h1:i<k)(h2:k<(numsOf s lits).length):(numsOf s lits).getD i ao≠(numsOf s lits).getD k ao:=fun e=>by
 have a1:=gG h.m8 (by omega:i<(numsOf s lits).length)
 have a2:=gG h.m8 h2
 rw[db (by omega),db h2] at e
 rw[e] at a1
 omega
theorem JU{s:bA}{lits:List aE}(h:c8 s lits){i k:Nat}(h1:i<k)(h2:k<(numsOf s lits).length)(hl:jQ (numsOf s lits) lits i k=true):Next s lits (ct ((numsOf s lits).getD i ao) ((numsOf s lits).getD k ao))∧Next s lits (ct ((numsOf s lits).getD k ao) ((numsOf s lits).getD i ao)):=by
 have hne:=I6 h h1 h2
 have hi:=kP (d:=ao) (by omega:i<(numsOf s lits).length)
 have hk:=kP (d:=ao) h2
 obtain⟨g1,g2,g3⟩:=h.less hi hk hne
 obtain⟨f1,f2,f3⟩:=h.less hk hi (Ne.symm hne)
 exact⟨⟨g1,g2,g3,Bo h1 h2 hl (.inl rfl)⟩,⟨f1,f2,f3,Bo h1 h2 hl (.inr rfl)⟩⟩
theorem wi{s:bA}{lits:List aE}(h:c8 s lits){i k:Nat}(h1:i<k)(h2:k<(numsOf s lits).length)(hl:jQ (numsOf s lits) lits i k=true):∀l∈gL ((numsOf s lits).getD i ao) ((numsOf s lits).getD k ao),Next s lits l:=by
 have hlk:linked (numsOf s lits) lits i k=false:=nC (v:=false) (terms:=[]) (c:=[]) hl
 obtain⟨n1,n2⟩:=JU h h1 h2 hl
 intro l hm
 simp only[gL,List.mem_cons,List.not_mem_nil,or_false] at hm
 rcases hm with rfl|rfl|rfl
 ·exact C0 h h1 h2 hlk
 ·exact n1
 ·exact n2
theorem ry{run:List aE→xh}{a b:Term}{l:List aE}{ls:List (List aE)}{out:List Case}:pf run a b (l::ls) out=if(run l).code=1 then pf run a b ls (out++[(run l).case]) else⟨(run l).model,ov,(run l).code⟩:=rfl
theorem uX{run:List aE→xh}{a b:Term}{out:List Case}:pf run a b [] out=⟨iU,.mk 4 0 uI [] a b out,1⟩:=rfl
section
variable{s:bA}{terms nums:List Term}{f:Nat}{lits:List aE}
theorem ym(h:12<(aI lits).length):e5 s terms nums (f+1) lits=rm:=by
 simp only[e5,if_pos h]
variable(h:¬12<(aI lits).length)
include h
theorem ux{n:Nat}(hc:iH (ic terms (closed terms (aI lits)).1) lits=some n):e5 s terms nums (f+1) lits=⟨iU,.mk 1 n (iZ terms (closed terms (aI lits)).2 (lits.getD n z7).atom.A (lits.getD n z7).atom.B) [] ao ao [],1⟩:=by
 simp only[e5,if_neg h,hc]
variable(hc:iH (ic terms (closed terms (aI lits)).1) lits=none)
include hc
theorem yT(hf:(a7 (bH nums lits)).code=1):e5 s terms nums (f+1) lits=⟨iU,.mk 2 0 uI (a7 (bH nums lits)).times ao ao [],1⟩:=by
 simp only[e5,if_neg h,hc,if_pos hf]
theorem yq(hf:(a7 (bH nums lits)).code≠1)(hf2:(a7 (bH nums lits)).code≠0):e5 s terms nums (f+1) lits=rm:=by
 simp only[e5,if_neg h,hc,if_neg hf,if_pos hf2]
variable(hf:(a7 (bH nums lits)).code=0)
include hf
theorem y7{q:Nat×Nat}(hp:bj nums.length (dj true terms nums (closed terms (aI lits)).1 lits)=some q):e5 s terms nums (f+1) lits=BI (iZ terms (closed terms (aI lits)).2 (nums.getD q.1 ao) (nums.getD q.2 ao)) (e5 s terms nums f (lits++[eE (nums.getD q.1 ao) (nums.getD q.2 ao)])):=by
 have hp':bj nums.length (fun i k=>!linked nums lits i k&&eM terms (closed terms (aI lits)).1 (nums.getD i ao) (nums.getD k ao))=some q:=hp
 have h1:¬ (a7 (bH nums lits)).code=1:=by omega
 simp only[e5,if_neg h,hc,if_neg h1,hf,ne_eq,not_true_eq_false,if_false,hp']
 rw[if_neg (by decide)]
variable(hp:bj nums.length (dj true terms nums (closed terms (aI lits)).1 lits)=none)
include hp
theorem pz{q:Nat×Nat}(hq:bj nums.length (dj false terms nums (closed terms (aI lits)).1 lits)=some q):e5 s terms nums (f+1) lits=pf (e5 s terms nums f) (nums.getD q.1 ao) (nums.getD q.2 ao) ((gL (nums.getD q.1 ao) (nums.getD q.2 ao)).map fun l=>lits++[l]) []:=by
 have hp':bj nums.length (fun i k=>!linked nums lits i k&&eM terms (closed terms (aI lits)).1 (nums.getD i ao) (nums.getD k ao))=none:=hp
 have hq':bj nums.length (fun i k=>!linked nums lits i k&&(!cu nums lits i k&& !cu nums lits k i))=some q:=hq
 have h1:¬ (a7 (bH nums lits)).code=1:=by omega
 simp only[e5,if_neg h,hc,if_neg h1,hf,ne_eq,not_true_eq_false,if_false,hp',hq']
 rw[if_neg (by decide)]
variable(hq:bj nums.length (dj false terms nums (closed terms (aI lits)).1 lits)=none)
include hq
theorem uY:e5 s terms nums (f+1) lits=if c6 s ⟨cV terms nums (closed terms (aI lits)).1 (a7 (bH nums lits)).aw⟩ lits=true then⟨⟨cV terms nums (closed terms (aI lits)).1 (a7 (bH nums lits)).aw⟩,ov,0⟩ else rm:=by
 have hp':bj nums.length (fun i k=>!linked nums lits i k&&eM terms (closed terms (aI lits)).1 (nums.getD i ao) (nums.getD k ao))=none:=hp
 have hq':bj nums.length (fun i k=>!linked nums lits i k&&(!cu nums lits i k&& !cu nums lits k i))=none:=hq
 have h1:¬ (a7 (bH nums lits)).code=1:=by omega
 simp only[e5,if_neg h,hc,if_neg h1,hf,ne_eq,not_true_eq_false,if_false,hp',hq']
 rw[if_neg (by decide)]
end
end Go.Mod
namespace Go.Mod
open Go.Eng
set_option maxRecDepth 100000
def qD(e:Edge):List D:=[.val (.int .i64 (e.step:Int)),.val (.bool e.back)]
def bc(l:List Edge):List (List D):=l.map qD
theorem CN(l:List Edge):(bc l).length=l.length:=by simp[bc]
theorem nT{l:List Edge}{i:Nat}(h:i<l.length):row (bc l) i=qD l[i]:=by simp[bc,row,List.getD,List.getElem?_eq_getElem h]
theorem Ds(l:List Edge):∀y∈bc l,y.length=2:=by
 intro y hy
 obtain⟨t,_,rfl⟩:=List.mem_map.1 hy
 rfl
theorem j7(a b:List Edge):bc a++bc b=bc (a++b):=by simp[bc]
theorem ig:bc []=[]:=rfl
theorem jj(n:Edge)(l:List Edge):bc (n::l)=qD n::bc l:=rfl
theorem DF{l:List Edge}{i:Nat}{e:Edge}:(bc l).set i (qD e)=bc (l.set i e):=by simp[bc,List.map_set]
attribute [go_sem] CN nT ig qD
structure Dh{α:Type}(l ys:List α)(i:Nat):Prop where
 len:ys.length=l.length
 at_:∀k,k<l.length→ys[k]?=if k<i∨l.length-1-k<i then l[l.length-1-k]? else l[k]?
theorem Dh.zero{α:Type}(l:List α):Dh l l 0:=⟨rfl,fun k _=>by simp⟩
theorem Dh.step{α:Type}{l ys:List α}{i j:Nat}(h:Dh l ys i)(hij:i<j)(hj:i+j+1=l.length)(hi':i<ys.length)(hj':j<ys.length):Dh l ((ys.set i ys[j]).set j ys[i]) (i+1):=by
 have hlen:=h.len
 refine⟨by simp[hlen],fun k hk=>?_⟩
 have e1:ys[j]?=some ys[j]:=List.getElem?_eq_getElem hj'
 have e2:ys[i]?=some ys[i]:=List.getElem?_eq_getElem hi'
 have a1:=h.at_ j (by omega)
 have a2:=h.at_ i (by omega)
 have a3:=h.at_ k hk
 rw[if_neg (by omega)] at a1 a2
 rw[e1] at a1
 rw[e2] at a2
 rcases Nat.lt_trichotomy k j with h1|h1|h1
 ·rw[List.getElem?_set_ne (by omega)]
  rcases Classical.em (k=i) with h2|h2
  ·subst h2
   rw[List.getElem?_set_self hi',if_pos (.inl (by omega)),a1]
   congr 1
   omega
  ·rw[List.getElem?_set_ne (by omega),a3]
   rcases Classical.em (k<i∨l.length-1-k<i) with h3|h3
   ·rw[if_pos h3,if_pos (by omega)]
   ·rw[if_neg h3,if_neg (by omega)]
 ·subst h1
  rw[List.getElem?_set_self (by simpa using hj'),if_pos (.inr (by omega)),a2]
  congr 1
  omega
 ·rw[List.getElem?_set_ne (by omega),List.getElem?_set_ne (by omega),a3,if_pos (by omega),if_pos (by omega)]
theorem Dh.done{α:Type}{l ys:List α}{i:Nat}(h:Dh l ys i)(hi:l.length≤2*i+1):ys=l.reverse:=by
 apply List.ext_getElem?
 intro k
 rcases Nat.lt_or_ge k l.length with h1|h1
 ·rw[h.at_ k h1,List.getElem?_reverse h1]
  rcases Classical.em (k<i∨l.length-1-k<i) with h2|h2
  ·rw[if_pos h2]
  ·rw[if_neg h2]
   congr 1
   omega
 ·rw[List.getElem?_eq_none (by rw[h.len];exact h1),List.getElem?_eq_none (by simpa using h1)]
def rR(disc:List (Nat×Edge)):List (Int×Value):=(da disc).map fun(v:Nat)=>((v:Int),Value.bool true)
def iD(disc:List (Nat×Edge)):List (Int×Value):=(disc.drop 1).map fun p=>((p.1:Int),Value.agg #[.int .i64 (p.2.step:Int),.bool p.2.back])
theorem tO(a b:List (Nat×Edge)):rR (a++b)=rR a++rR b:=by simp[rR,da]
theorem lW{a:List (Nat×Edge)}{p:Nat×Edge}(h:0<a.length):iD (a++[p])=iD a++[((p.1:Int),Value.agg #[.int .i64 (p.2.step:Int),.bool p.2.back])]:=by
 unfold iD
 rw[List.drop_append_of_le_length (by omega),List.map_append]
 rfl
theorem BA:∀{l:List Nat}{n:Nat},n∈l→dV (l.map fun(v:Nat)=>((v:Int),Value.bool true)) (n:Int)=some (.bool true)
 | v::l,n,h=>by
   simp only[List.map_cons,dV]
   rcases Classical.em ((n:Int)=(v:Int)) with h1|h1
   ·rw[if_pos h1]
   ·rw[if_neg h1]
    rcases List.mem_cons.1 h with h|h
    ·exact absurd (by rw[h]) h1
    ·exact BA h
theorem yY:∀{l:List Nat}{n:Nat},n∉l→dV (l.map fun(v:Nat)=>((v:Int),Value.bool true)) (n:Int)=none
 | [],_,_=>rfl
 | v::l,n,h=>by
   simp only[List.map_cons,dV]
   rw[if_neg (fun e=>h (by simp[show n=v by omega]))]
   exact yY fun h1=>h (List.mem_cons_of_mem _ h1)
theorem r4{disc:List (Nat×Edge)}{n:Nat}(h:n∈da disc):dV (rR disc) (n:Int)=some (.bool true):=BA h
theorem kf{disc:List (Nat×Edge)}{n:Nat}(h:n∉da disc):dV (rR disc) (n:Int)=none:=yY h
theorem tS:∀{l:List (Nat×Edge)}{j:Nat}{v:Nat}{e:Edge},(l.map Prod.fst).Nodup→l[j]?=some (v,e)→dV (l.map fun p=>((p.1:Int),Value.agg #[.int .i64 (p.2.step:Int),.bool p.2.back])) (v:Int)=some (.agg #[.int .i64 (e.step:Int),.bool e.back])
 | [],j,v,e,_,h=>by simp at h
 | p::l,0,v,e,_,h=>by
   simp only[List.getElem?_cons_zero,Option.some.injEq] at h
   subst h
   simp[dV]
 | p::l,j+1,v,e,hn,h=>by
   simp only[List.getElem?_cons_succ] at h
   simp only[List.map_cons,List.nodup_cons] at hn
   have hm:v∈l.map Prod.fst:=List.mem_map.2 ⟨(v,e),List.mem_of_getElem? h,rfl⟩
   simp only[List.map_cons,dV]
   rw[if_neg (fun e1=>hn.1 (by rw[show p.1=v by omega];exact hm))]
   exact tS hn.2 h
theorem zT{disc:List (Nat×Edge)}(hn:(da disc).Nodup){j v:Nat}{e:Edge}(hj:0<j)(h:disc[j]?=some (v,e)):dV (iD disc) (v:Int)=some (.agg #[.int .i64 (e.step:Int),.bool e.back]):=by
 refine tS (j:=j-1) ?_ ?_
 ·rw[List.map_drop]
  exact hn.sublist (List.drop_sublist _ _)
 ·rw[List.getElem?_drop,show 1+(j-1)=j by omega]
  exact h
theorem kX{disc:List (Nat×Edge)}{n:Nat}(h:n∉da disc):dV (iD disc) (n:Int)=none:=by
 have key:∀{l:List (Nat×Edge)},(∀p∈l,p.1≠n)→dV (l.map fun p=>((p.1:Int),Value.agg #[.int .i64 (p.2.step:Int),.bool p.2.back])) (n:Int)=none:=by
  intro l
  induction l with
  | nil=>intro _;rfl
  | cons p l ih=>
    intro hl
    simp only[List.map_cons,dV]
    rw[if_neg (fun e=>hl p (by simp) (by omega))]
    exact ih fun q hq=>hl q (List.mem_cons_of_mem _ hq)
 refine key fun p hp e=>h ?_
 rw[←e]
 exact List.mem_map.2 ⟨p,List.mem_of_mem_drop hp,rfl⟩
def se(steps:List Step)(k:Nat)(disc:List (Nat×Edge))(v:Nat):Prop:=∀j,j<k→(vA steps j=v→vB steps j∈da disc)∧(vB steps j=v→vA steps j∈da disc)
theorem FK(steps:List Step)(disc:List (Nat×Edge))(v:Nat):se steps 0 disc v:=fun j hj=>by omega
theorem GW{steps:List Step}{n:Nat}{disc:List (Nat×Edge)}{v:Nat}(h:se steps n disc v):Seen steps n disc v:=h
theorem gU{steps:List Step}{k:Nat}{disc:List (Nat×Edge)}{v:Nat}(h:se steps k disc v)(h1:vA steps k=v→vB steps k∈da disc)(h2:vB steps k=v→vA steps k∈da disc):se steps (k+1) disc v:=fun j hj=>by
 rcases Nat.lt_or_ge j k with h3|h3
 ·exact h j h3
 ·obtain rfl:j=k:=by omega
  exact⟨h1,h2⟩
theorem vS{steps:List Step}{k:Nat}{a b:List (Nat×Edge)}{v:Nat}(h:se steps k a v):se steps k (a++b) v:=AY (n:=k) h
end Go.Mod
namespace Go.Mod
open Go.Eng
set_option maxRecDepth 100000
theorem AK:∀(rs:List Row)(t:Row),rs.takeWhile (fun x=>decide (bJ x t<0))=rs.take (cut rs t)∧rs.dropWhile (fun x=>decide (bJ x t<0))=rs.drop (cut rs t)
 | [],_=>by simp[cut]
 | r::rs,t=>by
   obtain⟨h1,h2⟩:=AK rs t
   rcases Classical.em (bJ r t<0) with h|h
   ·simp[cut,h,h1,h2]
   ·simp[cut,h]
theorem kR(rs:List Row)(t:Row):putRow rs t=if found rs t then rs else rs.take (cut rs t)++t::rs.drop (cut rs t):=by
 obtain⟨h1,h2⟩:=AK rs t
 unfold putRow found
 simp only[h1,h2]
 rcases Nat.lt_or_ge (cut rs t) rs.length with h|h
 ·rw[List.drop_eq_getElem_cons h,List.getElem?_eq_getElem h]
  rcases Classical.em (bJ rs[cut rs t] t=0) with hc|hc
  ·simp[hc]
  ·simp[hc]
 ·rw[List.drop_of_length_le h,List.getElem?_eq_none h]
  simp
theorem qF{a b:Rat}(ha:aS a=true)(hb:aS b=true)(h:a≠b):bD a b=true∨bD b a=true:=by
 rw[dw ha hb,dw hb ha]
 have h1:a.N*b.D≠b.N*a.D:=fun e=>h (AO ha hb e)
 omega
theorem pq:∀{as bs:List Rat},bt as=true→bt bs=true→as.length=bs.length→as≠bs→dA as bs=true∨dA bs as=true
 | [],[],_,_,_,h=>absurd rfl h
 | [],b::bs,_,_,h,_=>by simp at h
 | a::as,[],_,_,h,_=>by simp at h
 | a::as,b::bs,h1,h2,h3,h4=>by
   simp only[bt,List.all_cons,Bool.and_eq_true] at h1 h2
   simp only[dA]
   rcases Classical.em (a=b) with h|h
   ·rw[if_pos h,if_pos h.symm]
    exact pq h1.2 h2.2 (by simpa using h3) fun e=>h4 (by rw[h,e])
   ·rw[if_neg h,if_neg (Ne.symm h)]
    exact qF h1.1 h2.1 h
theorem Fq{a b:gR}(h:a≠b):cR a b=true∨cR b a=true:=by
 cases h1:cR a b
 ·cases h2:cR b a
  ·exact absurd (jI.1 (by simp[gM,h1,h2])) h
  ·exact .inr rfl
 ·exact .inl rfl
theorem zX{a b:Row}(ha:bt a.args=true)(hb:bt b.args=true)(h:¬ (a.name=b.name∧a.args=b.args)):bI a b=true∨bI b a=true:=by
 unfold bI
 rcases Classical.em (a.name=b.name) with h1|h1
 ·rw[if_pos h1,if_pos h1.symm]
  rcases Classical.em (a.args.length=b.args.length) with h2|h2
  ·rw[if_pos h2,if_pos h2.symm]
   exact pq ha hb h2 fun e=>h ⟨h1,e⟩
  ·rw[if_neg h2,if_neg (Ne.symm h2)]
   rcases Nat.lt_or_ge a.args.length b.args.length with h3|h3
   ·exact .inl (decide_eq_true h3)
   ·exact .inr (decide_eq_true (by omega))
 ·rw[if_neg h1,if_neg (Ne.symm h1)]
  exact Fq h1
theorem AX{rs:List Row}{t:Row}(h1:∀r∈rs,bt r.args=true)(h2:rs.Pairwise (fun a b=>bI a b=true))(ht:bt t.args=true):e9 rs t:=by
 refine List.Pairwise.imp_of_mem ?_ h2
 intro a b ha hb hab hbt
 have wa:=h1 a ha
 have wb:=h1 b hb
 rw[fP wb ht] at hbt
 rw[fP wa ht]
 exact jo wa wb ht hab hbt
theorem EZ{rs:List Row}{t:Row}(h1:∀r∈rs,bt r.args=true)(h2:rs.Pairwise (fun a b=>bI a b=true))(ht:bt t.args=true):(putRow rs t).Pairwise (fun a b=>bI a b=true):=by
 have hm:=AX h1 h2 ht
 have hc:=fun k h=>mc hm k h
 rw[kR]
 cases hf:found rs t
 ·rw[if_neg (by simp)]
  have hsplit:=h2
  rw[←List.take_append_drop (cut rs t) rs] at hsplit
  obtain⟨p1,p2,p3⟩:=List.pairwise_append.1 hsplit
  have hlo:∀x∈rs.take (cut rs t),bI x t=true:=fun x hx=>by
   obtain⟨k,hk,rfl⟩:=List.mem_iff_getElem.1 hx
   have hk2:k<cut rs t:=by rw[List.length_take] at hk;omega
   have hk3:k<rs.length:=by rw[List.length_take] at hk;omega
   rw[List.getElem_take]
   exact(fP (h1 _ (List.getElem_mem hk3)) ht).1 ((hc k hk3).1 hk2)
  have hhi:∀y∈rs.drop (cut rs t),bI t y=true:=fun y hy=>by
   rcases Nat.lt_or_ge (cut rs t) rs.length with h|h
   ·have w0:=h1 _ (List.getElem_mem h)
    have n1:¬bJ rs[cut rs t] t<0:=fun e=>by
     have:=(hc _ h).2 e
     omega
    have n2:bJ rs[cut rs t] t≠0:=fun e=>by
     rw[found,List.getElem?_eq_getElem h] at hf
     simp[e] at hf
    have h0:bI t rs[cut rs t]=true:=by
     rcases zX w0 ht (fun e=>n2 ((l8 w0 ht).2 e)) with h3|h3
     ·exact absurd ((fP w0 ht).2 h3) n1
     ·exact h3
    rw[List.drop_eq_getElem_cons h] at hy p2
    rcases List.mem_cons.1 hy with rfl|hy2
    ·exact h0
    ·exact jo ht w0 (h1 _ (List.mem_of_mem_drop hy2)) h0 ((List.pairwise_cons.1 p2).1 y hy2)
   ·rw[List.drop_of_length_le h] at hy
    simp at hy
  refine List.pairwise_append.2 ⟨p1,List.pairwise_cons.2 ⟨hhi,p2⟩,fun x hx y hy=>?_⟩
  rcases List.mem_cons.1 hy with rfl|hy
  ·exact hlo x hx
  ·exact p3 x hx y hy
 ·rw[if_pos rfl]
  exact h2
end Go.Mod
namespace Go.Mod
open Go.Eng
set_option maxRecDepth 100000
def nS(b:List Int)(s:bA)(p:Int):aE×Int:=(⟨(gI b s p).1,decide (a6 b (gI b s p).2 3=0)⟩,(gI b s p).2+1)
theorem H2{b:List Int}(hb:qz b){s:bA}(h:bP s){p:Int}(hp:0≤p):p≤(nS b s p).2∧(nS b s p).2≤p+61:=by
 have h1:=F3 hb h hp
 simp only[nS]
 omega
def pE(b:List Int)(s:bA):Nat→List aE→Int→List aE×Int
 | 0,out,p=>(out,p)
 | n+1,out,p=>pE b s n (if bG s (out++[(nS b s p).1]) then out++[(nS b s p).1] else out) (nS b s p).2
def yB(b:List Int)(s:bA):Nat→List aE→Int→List aE×Int
 | 0,out,p=>(out,p)
 | n+1,out,p=>yB b s n (out++[(nS b s p).1]) (nS b s p).2
def o3(b:List Int)(s:bA)(p:Int):List aE×Int:=pE b s (dI b p [3,4,5,2,6,1,0]).toNat [] (p+1)
def zI(b:List Int)(p:Int):bA×List aE×Int:=
 let g:=FN b p
 let r:=o3 b g.1 g.2
 let k:=a6 b r.2 48
 if k=0 then(g.1,r.1++[⟨(vH b g.1 (r.2+1)).1,false⟩],(vH b g.1 (r.2+1)).2) else
 if k=1 then(g.1,(yB b g.1 (7-r.1.length) r.1 (r.2+1)).1,(yB b g.1 (7-r.1.length) r.1 (r.2+1)).2) else
 if k=2 then((di b (di b g.1 (r.2+1)).1 (di b g.1 (r.2+1)).2).1,r.1,(di b (di b g.1 (r.2+1)).1 (di b g.1 (r.2+1)).2).2) else
 if k=3 then(g.1,r.1++[z7],r.2+1) else(g.1,r.1,r.2+1)
def FM(b:List Int):bA×List aE:=((zI b 0).1,(zI b 0).2.1)
theorem IY{b:List Int}(hb:qz b){s:bA}(h:bP s):∀(n:Nat)(out:List aE)(p:Int),0≤p→p≤(pE b s n out p).2∧(pE b s n out p).2≤p+n*61∧(pE b s n out p).1.length≤out.length+n
 | 0,out,p,_=>by simp[pE]
 | n+1,out,p,hp=>by
   have h1:=H2 hb h hp
   have h2:=IY hb h n (if bG s (out++[(nS b s p).1]) then out++[(nS b s p).1] else out) (nS b s p).2 (by omega)
   have h3:(if bG s (out++[(nS b s p).1]) then out++[(nS b s p).1] else out).length≤out.length+1:=by
    split
    ·simp
    ·omega
   simp only[pE]
   omega
theorem Ow{b:List Int}(hb:qz b){s:bA}(h:bP s){p:Int}(hp:0≤p):p≤(o3 b s p).2∧(o3 b s p).2≤p+500∧(o3 b s p).1.length≤6:=by
 have hm:=pa hb (p:=p) (l:=[3,4,5,2,6,1,0]) hp (by simp)
 simp only[List.mem_cons,List.not_mem_nil,or_false] at hm
 have hk:(dI b p [3,4,5,2,6,1,0]).toNat≤6:=by omega
 have:=IY hb h (dI b p [3,4,5,2,6,1,0]).toNat [] (p+1) (by omega)
 simp only[o3]
 simp only[List.length_nil] at this
 omega
end Go.Mod
namespace Go.Mod
open Go.Eng
set_option maxRecDepth 100000
theorem tF{s:bA}{m:Model}{a c:List aE}(h:c6 s m (a++c)=true):c6 s m a=true:=by
 simp only[c6,List.all_append,Bool.and_eq_true] at h⊢
 exact⟨h.1,h.2.1⟩
theorem uZ{run:List aE→xh}{a b:Term}:∀{ls:List (List aE)}{out:List Case},(pf run a b ls out).code=0→∃l∈ls,(run l).code=0∧(pf run a b ls out).model=(run l).model
 | [],out,h=>by rw[uX] at h;simp at h
 | l::ls,out,h=>by
   rw[ry] at h⊢
   rcases Classical.em ((run l).code=1) with h1|h1
   ·rw[if_pos h1] at h⊢
    obtain⟨x,hx,h2,h3⟩:=uZ h
    exact⟨x,List.mem_cons_of_mem _ hx,h2,h3⟩
   ·rw[if_neg h1] at h⊢
    exact⟨l,by simp,h,rfl⟩
theorem xS{run:List aE→xh}{a b:Term}:∀{ls:List (List aE)}{out:List Case},(pf run a b ls out).code=1→(pf run a b ls out).case.kind=4
 | [],out,h=>by rw[uX];rfl
 | l::ls,out,h=>by
   rw[ry] at h⊢
   rcases Classical.em ((run l).code=1) with h1|h1
   ·rw[if_pos h1] at h⊢
    exact xS h
   ·rw[if_neg h1] at h
    exact absurd h h1
section
variable{s:bA}{terms nums:List Term}
theorem yK:∀(f:Nat)(lits:List aE),((e5 s terms nums f lits).code=0→c6 s (e5 s terms nums f lits).model lits=true)∧((e5 s terms nums f lits).code=1→1≤(e5 s terms nums f lits).case.kind)
 | 0,lits=>by
   constructor<;>(intro h;simp[e5,rm] at h)
 | f+1,lits=>by
   rcases Classical.em (12<(aI lits).length) with h12|h12
   ·rw[ym h12]
    constructor<;>(intro h;simp[rm] at h)
   cases hc:iH (ic terms (closed terms (aI lits)).1) lits with
   | some n=>
     rw[ux h12 hc]
     exact⟨fun h=>by simp at h,fun _=>by simp[Case.kind]⟩
   | none=>
   rcases Classical.em ((a7 (bH nums lits)).code=1) with h1|h1
   ·rw[yT h12 hc h1]
    exact⟨fun h=>by simp at h,fun _=>by simp[Case.kind]⟩
   rcases Classical.em ((a7 (bH nums lits)).code=0) with h0|h0
   ·cases hp:bj nums.length (dj true terms nums (closed terms (aI lits)).1 lits) with
    | some q=>
      rw[y7 h12 hc h0 hp]
      obtain⟨i1,i2⟩:=yK f (lits++[eE (nums.getD q.1 ao) (nums.getD q.2 ao)])
      generalize e5 s terms nums f (lits++[eE (nums.getD q.1 ao) (nums.getD q.2 ao)])=r at *
      unfold BI
      rcases Classical.em (r.code=1) with hr|hr
      ·rw[if_pos hr]
       exact⟨fun h=>by simp at h,fun _=>by simp[Case.kind]⟩
      ·rw[if_neg hr]
       exact⟨fun h=>tF (i1 h),fun h=>absurd h hr⟩
    | none=>
    cases hq:bj nums.length (dj false terms nums (closed terms (aI lits)).1 lits) with
    | some q=>
      rw[pz h12 hc h0 hp hq]
      refine⟨fun h=>?_,fun h=>by rw[xS h];omega⟩
      obtain⟨l,hl,h2,h3⟩:=uZ h
      rw[h3]
      obtain⟨x,_,rfl⟩:=List.mem_map.1 hl
      exact tF ((yK f (lits++[x])).1 h2)
    | none=>
      rw[uY h12 hc h0 hp hq]
      rcases Classical.em (c6 s ⟨cV terms nums (closed terms (aI lits)).1 (a7 (bH nums lits)).aw⟩ lits=true) with hm|hm
      ·rw[if_pos hm]
       exact⟨fun _=>hm,fun h=>by simp at h⟩
      ·rw[if_neg hm]
       constructor<;>(intro h;simp[rm] at h)
   ·rw[yq h12 hc h1 h0]
    constructor<;>(intro h;simp[rm] at h)
theorem Ng{lits:List aE}(h:(fG s lits).code=0):c6 s (fG s lits).model lits=true:=by
 unfold fG at h⊢
 split at h
 ·rename_i hb
  rw[if_pos hb]
  exact(yK 13 lits).1 h
 ·simp at h
end
end Go.Mod
namespace Go.Mod
open Go.Eng
set_option maxRecDepth 100000
def Sx(s:bA)(lits:List aE):List gk:=if bG s lits then aI lits else []
def fV(s:bA)(lits:List aE):List eQ:=if bG s lits then bH (numsOf s lits) lits else []
def eC(s:bA)(lits:List aE):List Term:=if bG s lits then numsOf s lits else []
theorem JC{lits:List aE}{e:gk}:e∈aI lits↔∃l∈lits,l.atom.kind=1∧l.no=false∧e=⟨l.atom.A,l.atom.B⟩:=by
 simp only[aI,List.mem_filterMap]
 constructor
 ·rintro⟨l,hl,h⟩
  split at h
  ·rename_i hk
   exact⟨l,hl,hk.1,hk.2,(Option.some.inj h).symm⟩
  ·cases h
 ·rintro⟨l,hl,h1,h2,h3⟩
  exact⟨l,hl,by rw[if_pos ⟨h1,h2⟩,h3]⟩
section
variable{s:bA}{lits:List aE}(h:bG s lits=true)
include h
theorem Fi:∀l∈lits,bS s l.atom=true:=by
 simp only[bG,Bool.and_eq_true,decide_eq_true_eq,List.all_eq_true] at h
 exact h.1.1.2
end
theorem zp{c:List Nat}{a b i k:Nat}(hi:i<c.length)(hk:k<c.length)(h:cl c i=cl c k):cl (dG c a b) i=cl (dG c a b) k:=by
 rw[tv hi,tv hk,h]
theorem ki{parts:List Term}:∀(eqs:List gk)(n:Nat)(c:List Nat)(steps:List Step){i k:Nat},i<c.length→k<c.length→cl c i=cl c k→(dQ parts n eqs c steps).1.length=c.length∧cl (dQ parts n eqs c steps).1 i=cl (dQ parts n eqs c steps).1 k
 | [],_,_,_,_,_,_,_,h=>⟨rfl,h⟩
 | e::es,n,c,steps,i,k,hi,hk,h=>by
   rw[dQ]
   split
   ·exact ki es (n+1) c steps hi hk h
   ·have:=ki (parts:=parts) es (n+1) (dG c (al parts e.A) (al parts e.B)) (steps++[⟨al parts e.A,al parts e.B,n⟩]) (i:=i) (k:=k) (by rw[dy];exact hi) (by rw[dy];exact hk) (zp hi hk h)
    rw[dy] at this
    exact this
theorem J4{c:List Nat}{a b:Nat}(ha:a<c.length)(hb:b<c.length):cl (dG c a b) a=cl (dG c a b) b:=(BX ha hb).2 (.inr (.inl ⟨rfl,rfl⟩))
theorem pL{parts:List Term}:∀(eqs:List gk)(n:Nat)(c:List Nat)(steps:List Step),c.length=parts.length→(∀e∈eqs,e.A∈parts∧e.B∈parts)→∀e∈eqs,cl (dQ parts n eqs c steps).1 (al parts e.A)=cl (dQ parts n eqs c steps).1 (al parts e.B)
 | [],_,_,_,_,_,e,he=>by simp at he
 | x::es,n,c,steps,hc,hin,e,he=>by
   have hx:=hin x (by simp)
   have pA:al parts x.A<c.length:=by rw[hc];exact aU hx.1
   have pB:al parts x.B<c.length:=by rw[hc];exact aU hx.2
   rw[dQ]
   split
   ·rename_i hs
    rcases List.mem_cons.1 he with rfl|he
    ·exact(ki es (n+1) c steps pA pB hs).2
    ·exact pL es (n+1) c steps hc (fun y hy=>hin y (by simp[hy])) e he
   ·rcases List.mem_cons.1 he with rfl|he
    ·exact(ki es (n+1) _ _ (by rw[dy];exact pA) (by rw[dy];exact pB) (J4 pA pB)).2
    ·exact pL es (n+1) _ _ (by rw[dy];exact hc) (fun y hy=>hin y (by simp[hy])) e he
theorem mb{parts:List Term}:∀(eqs:List gk)(n:Nat)(c:List Nat)(steps:List Step),(dQ parts n eqs c steps).1.length=c.length
 | [],_,_,_=>rfl
 | e::es,n,c,steps=>by
   rw[dQ]
   split
   ·exact mb es (n+1) c steps
   ·rw[mb es (n+1),dy]
theorem tP{parts:List Term}:∀(f:Nat)(c:List Nat)(steps:List Step){i k:Nat},i<c.length→k<c.length→cl c i=cl c k→cl (fc parts f c steps).1 i=cl (fc parts f c steps).1 k
 | 0,_,_,_,_,_,_,h=>h
 | f+1,c,steps,i,k,hi,hk,h=>by
   rw[fc]
   split
   ·exact h
   ·exact tP f _ _ (by rw[dy];exact hi) (by rw[dy];exact hk) (zp hi hk h)
theorem Hr{parts:List Term}{eqs:List gk}(hin:∀e∈eqs,e.A∈parts∧e.B∈parts){e:gk}(he:e∈eqs):eM parts (closed parts eqs).1 e.A e.B=true:=by
 have hl:(given parts eqs).1.length=parts.length:=by rw[given,mb,List.length_range]
 have h1:=hin e he
 refine decide_eq_true (tP _ _ _ (by rw[hl];exact aU h1.1) (by rw[hl];exact aU h1.2) ?_)
 exact pL eqs 0 _ _ List.length_range hin e he
end Go.Mod
