/-
  Plain laws on literals that are decided: their terms and numbers stay the same where more is told of these. No program is walked here.
-/
import Derived.Test.YtabembjmeobhoaaGreatKDEk
import Derived.Test.YtabembjmeobhoaaGreatKDEb
set_option linter.unusedVariables false
set_option linter.unusedSimpArgs false
open Bool renaming and_eq_true→al
open Classical renaming em→aa
open List renaming drop_eq_getElem_cons→ae,getElem?_eq_getElem→ah,drop_of_length_le→ai,getElem_mem→ak,mem_cons→ay,mem_append→aP,map_cons→aQ,not_mem_nil→ba,mem_cons_of_mem→bh,getElem?_eq_none→br,range→bx,mem_map→bG,length_take→bU,nodup_cons→cI,all_eq_true→c5,mem_append_left→du,range'→dN,mem_range→ff,mem_of_mem_drop→fF,length_range→fV,getElem?_set_ne→ko,takeWhile_cons→nx,dropWhile_cons→ny,pairwise_cons→nZ,getElem?_set_self→o3
open Nat renaming lt_or_ge→b6
namespace Go.Mod
open Go.Eng
set_option maxRecDepth 100000
theorem Vn{l:List Term}{t:Term}(h:gR l)(ht:∀k∈t.kids,k∈l):gR (l++[t]):=by
 intro u hu k hk
 rcases aP.1 hu with hu|hu
 ·exact du _ (h u hu k hk)
 ·simp only[ay,ba,or_false] at hu
  subst hu
  exact du _ (ht k hk)
mutual
theorem C5:∀(t:Term)(l:List Term),gR l→gR (de l t)
 | .mk n ks,l,h=>by
   have h1:=oG ks l h
   rw[de]
   split
   ·exact Vn h1 (sy ks l)
   ·exact h1
theorem oG:∀(ts:List Term)(l:List Term),gR l→gR (a7 l ts)
 | [],l,h=>by rw[a7];exact h
 | t::ts,l,h=>by
   rw[a7]
   exact oG ts _ (C5 t l h)
end
mutual
theorem EM:∀(t:Term)(l:List Term),l.Nodup→(de l t).Nodup
 | .mk n ks,l,h=>by
   have h1:=mZ ks l h
   rw[de]
   split
   ·rename_i lL
    refine List.nodup_append.2 ⟨h1,by simp,fun x hx y hy e=>?_⟩
    simp only[ay,ba,or_false] at hy
    rw[e,hy] at hx
    have:=cV.2 hx
    omega
   ·exact h1
theorem mZ:∀(ts:List Term)(l:List Term),l.Nodup→(a7 l ts).Nodup
 | [],l,h=>by rw[a7];exact h
 | t::ts,l,h=>by
   rw[a7]
   exact mZ ts _ (EM t l h)
end
mutual
theorem Mn:∀(t:Term)(l:List Term),gR l→t∈l→de l t=l
 | .mk n ks,l,h,ht=>by
   have h1:=uc ks l h fun k hk=>h _ ht k hk
   rw[de,h1]
   rw[if_neg (by have:=cV.2 ht;omega)]
theorem uc:∀(ts:List Term)(l:List Term),gR l→(∀t∈ts,t∈l)→a7 l ts=l
 | [],l,_,_=>by rw[a7]
 | t::ts,l,h,ht=>by
   rw[a7,Mn t l h (ht t (by simp))]
   exact uc ts l h fun u hu=>ht u (bh _ hu)
end
theorem Hb(l:List Term)(xs ys:List Term):a7 l (xs++ys)=a7 (a7 l xs) ys:=by
 rw[gn,gn,gn,List.foldl_append]
theorem BV(a b:List bm):eF (a++b)=eF a++eF b:=by simp[eF]
theorem vP{ab:List bm}{t:Term}:t∈eF ab↔∃l∈ab,t∈cf l.atom:=by simp[eF]
structure ic(s:dK)(ab:List bm):Prop where
 sig:fI s=true
 fit:∀l∈ab,Fit (numsOf s ab) l
 n24:(aw ab).length≤24
 n4:(numsOf s ab).length≤4
section
variable{s:dK}{ab:List bm}
theorem FM(h:fe s ab=true):ic s ab:=by
 obtain⟨h1,h2,h3,h4,h5,h6,h7,h8⟩:=xk h
 exact⟨h5,h1,h8,h3⟩
variable(h:ic s ab)
include h
theorem ic.wf:∀l∈ab,cQ l.atom=true:=fun l hl=>(h.fit l hl).wf
theorem ic.all:∀t∈eF ab,isTerm t=true:=(iQ h.wf).2
theorem ic.G7:aw ab=a7 [] (eF ab):=by rw[lD,kC h.all]
theorem ic.term:∀t∈aw ab,isTerm t=true:=by rw[lD];exact qM h.all
theorem ic.kids:gR (aw ab):=by rw[h.G7];exact oG _ _ fun t ht=>by simp at ht
theorem ic.nodup:(aw ab).Nodup:=by rw[h.G7];exact mZ _ _ (by simp)
theorem ic.has:∀l∈ab,∀t∈cf l.atom,t∈aw ab:=fun l hl t ht=>by
 rw[lD]
 exact zD h.all t (vP.2 ⟨l,hl,ht⟩)
omit h in
theorem oK:∀t∈numsOf s ab,t∈aw ab:=fun t ht=>(List.mem_filter.1 ht).1
theorem ic.num:∀t∈numsOf s ab,isTerm t=true:=fun t ht=>h.term t (oK t ht)
theorem ic.sj:(numsOf s ab).Nodup:=h.nodup.filter _
theorem ic.eqs:∀e∈aZ ab,e.A∈aw ab∧e.B∈aw ab∧(e.A∈numsOf s ab↔e.B∈numsOf s ab):=by
 intro e he
 simp only[aZ,List.mem_filterMap] at he
 obtain⟨l,hl,e1⟩:=he
 split at e1
 ·rename_i hk
  simp only[Option.some.injEq] at e1
  have hm:cf l.atom=[l.atom.A,l.atom.B]:=by simp[cf,hk.1]
  rw[←e1]
  exact⟨h.has l hl _ (by rw[hm];simp),h.has l hl _ (by rw[hm];simp),(h.fit l hl).eq hk.1⟩
 ·cases e1
theorem ic.same{l:bm}(hw:cQ l.atom=true)(kG:∀t∈cf l.atom,t∈aw ab):aw (ab++[l])=aw ab:=by
 have mR:∀t∈eF (ab++[l]),isTerm t=true:=by
  rw[BV]
  intro t ht
  rcases aP.1 ht with ht|ht
  ·exact h.all t ht
  ·obtain⟨l',hl',ht2⟩:=vP.1 ht
   simp only[ay,ba,or_false] at hl'
   rw[hl'] at ht2
   exact(mX hw).2 t ht2
 rw[lD,kC mR,BV,Hb,←h.G7]
 refine uc _ _ h.kids fun t ht=>?_
 obtain⟨l',hl',ht2⟩:=vP.1 ht
 simp only[ay,ba,or_false] at hl'
 rw[hl'] at ht2
 exact kG t ht2
theorem ic.more{l:bm}(hf:Fit (numsOf s ab) l)(kG:∀t∈cf l.atom,t∈aw ab):ic s (ab++[l])∧aw (ab++[l])=aw ab∧numsOf s (ab++[l])=numsOf s ab:=by
 have e1:=h.same hf.wf kG
 have e2:numsOf s (ab++[l])=numsOf s ab:=by unfold numsOf;rw[e1]
 refine⟨⟨h.sig,fun x hx=>?_,by rw[e1];exact h.n24,by rw[e2];exact h.n4⟩,e1,e2⟩
 rw[e2]
 rcases aP.1 hx with hx|hx
 ·exact h.fit x hx
 ·simp only[ay,ba,or_false] at hx
  rw[hx];exact hf
omit h in
theorem OC{a b:Term}:cf (hU a b).atom=[a,b]:=rfl
omit h in
theorem Ie{a b:Term}:∀t∈cf (eE a b).atom,t=a∨t=b:=by
 intro t ht
 unfold eE at ht
 split at ht
 ·simp[cf] at ht;exact ht.symm
 ·simp[cf] at ht;exact ht
theorem ic.eq{a b:Term}(ha:a∈numsOf s ab)(hb:b∈numsOf s ab):ic s (ab++[hU a b])∧aw (ab++[hU a b])=aw ab∧numsOf s (ab++[hU a b])=numsOf s ab:=by
 refine h.more (PS ha hb (h.num a ha) (h.num b hb)) fun t ht=>?_
 rw[OC] at ht
 simp only[ay,ba,or_false] at ht
 rcases ht with rfl|rfl
 ·exact oK _ ha
 ·exact oK _ hb
theorem ic.less{a b:Term}(ha:a∈numsOf s ab)(hb:b∈numsOf s ab)(jJ:a≠b):ic s (ab++[eE a b])∧aw (ab++[eE a b])=aw ab∧numsOf s (ab++[eE a b])=numsOf s ab:=by
 refine h.more (GP ha hb (h.num a ha) (h.num b hb) jJ) fun t ht=>?_
 rcases Ie t ht with rfl|rfl
 ·exact oK _ ha
 ·exact oK _ hb
end
def j5(nums:List Term)(c:List Nat)(e:fO):List Nat:=if bK nums e.A<0 then c else gj c (aG nums e.A) (aG nums e.B)
def Q0(nums:List Term)(eqs:List fO):List Nat:=eqs.foldl (j5 nums) (bx nums.length)
theorem KL{nums:List Term}{c d:List Nat}{e:fO}(hab:e.A∈nums↔e.B∈nums)(hc:c.length=nums.length)(hd:d.length=nums.length)(hr:∀i k,i<nums.length→k<nums.length→(cl c i=cl c k↔cl d i=cl d k)) :
 ∀i k,i<nums.length→k<nums.length→(cl (eY nums c e) i=cl (eY nums c e) k↔cl (j5 nums d e) i=cl (j5 nums d e) k):=by
 intro i k hi hk
 unfold eY j5
 rcases aa (e.A∈nums) with hA|hA
 ·have hB:=hab.1 hA
  have a0:=cV.2 hA
  have b0:=cV.2 hB
  have pa:=bA hA
  have pb:=bA hB
  rw[if_neg (by omega),if_neg (by omega),vN (by omega),vN (by omega),C8 (by omega) (by omega),←hr i k hi hk,←hr i _ hi pa,←hr k _ hk pb,←hr i _ hi pb,←hr k _ hk pa]
  split<;>split<;>omega
 ·have a0:bK nums e.A<0:=by
   have:=(not_congr cV).2 hA
   omega
  rw[if_pos (.inl a0),if_pos a0]
  exact hr i k hi hk
theorem Js{nums:List Term}:∀{eqs:List fO}{c d:List Nat},(∀e∈eqs,(e.A∈nums↔e.B∈nums))→c.length=nums.length→d.length=nums.length→(∀i k,i<nums.length→k<nums.length→(cl c i=cl c k↔cl d i=cl d k)) →
 ∀i k,i<nums.length→k<nums.length→(cl (eqs.foldl (eY nums) c) i=cl (eqs.foldl (eY nums) c) k↔cl (eqs.foldl (j5 nums) d) i=cl (eqs.foldl (j5 nums) d) k)
 | [],c,d,_,_,_,hr=>hr
 | e::eqs,c,d,he,hc,hd,hr=>by
   simp only[List.foldl_cons]
   refine Js (fun x hx=>he x (bh _ hx)) (by rw[vn,hc]) ?_ (KL (he e (by simp)) hc hd hr)
   unfold j5
   split
   ·exact hd
   ·rw[fK,hd]
theorem PK{nums:List Term}{ab:List bm}{i k:Nat}(he:∀e∈aZ ab,(e.A∈nums↔e.B∈nums))(hi:i<nums.length)(hk:k<nums.length):decide (cl (Q0 nums (aZ ab)) i=cl (Q0 nums (aZ ab)) k)=linked nums ab i k:=by
 have:=Js he (c:=bx nums.length) (d:=bx nums.length) (by simp) (by simp) (fun _ _ _ _=>Iff.rfl) i k hi hk
 unfold linked
 exact decide_eq_decide.2 this.symm
def lW(i k n:Nat):List (Nat×Nat):=(dN k (n-k)).map (fun k=>(i,k))++dJ (i+1) n
theorem nN{i n:Nat}(h:i<n):dJ i n=lW i (i+1) n:=EE h
theorem oS{i k n:Nat}(h:k<n):lW i k n=(i,k)::lW i (k+1) n:=by
 unfold lW
 rw[oh h];rfl
theorem qc{i k n:Nat}(h:n≤k):lW i k n=dJ (i+1) n:=by
 unfold lW
 rw[pM h];rfl
def vL{α:Type}(p:α→Bool)(l:List α)(i:Nat):Option Nat:=(dN i (l.length-i)).find? fun i=>match l[i]? with|none=>false|some x=>p x
theorem Fp{α:Type}(p:α→Bool)(l:List α):jQ p l=vL p l 0:=by
 unfold jQ vL
 rw[List.range_eq_range',Nat.sub_zero]
 rfl
theorem Dz{α:Type}{p:α→Bool}{l:List α}{i:Nat}(h:i<l.length):vL p l i=if p l[i] then some i else vL p l (i+1):=by
 unfold vL
 rw[oh h,List.find?_cons,ah h]
 cases hp:p l[i]<;>simp[hp]
theorem HL{α:Type}{p:α→Bool}{l:List α}{i:Nat}(h:l.length≤i):vL p l i=none:=by
 unfold vL
 rw[pM h];rfl
theorem BB{α:Type}{p:α→Bool}{l:List α}{n:Nat}(h:jQ p l=some n):∃hn:n<l.length,p l[n]=true:=by
 have h1:=List.find?_some h
 have h2:=ff.1 (List.mem_of_find?_eq_some h)
 refine⟨h2,?_⟩
 rw[ah h2] at h1
 exact h1
def atI:Option Nat→Int
 | none=>-1
 | some n=>n
def told(ab:List bm)(l:bm):Bool:=ab.any fun x=>(x.no == l.no)&&decide (x.atom=l.atom)
theorem Dk{nums:List Term}{ab:List bm}{i k:Nat}:told ab (eE (nums.getD i aM) (nums.getD k aM))=eS nums ab i k:=by
 unfold told eS
 rw[GA]
 congr 1
 funext x
 cases x.no<;>rfl
def Jh(ab:List bm)(l:bm)(i:Nat):Bool:=(ab.drop i).any fun x=>(x.no == l.no)&&decide (x.atom=l.atom)
theorem QV{ab:List bm}{l:bm}{i:Nat}(h:i<ab.length):Jh ab l i=((ab[i].no == l.no)&&decide (ab[i].atom=l.atom)||Jh ab l (i+1)):=by
 unfold Jh
 rw[ae h,List.any_cons]
theorem TC{ab:List bm}{l:bm}{i:Nat}(h:ab.length≤i):Jh ab l i=false:=by
 unfold Jh
 rw[ai h];rfl
def dU(have_:Bool)(aq nums:List Term)(c:List Nat)(ab:List bm)(i k:Nat):Bool:=!linked nums ab i k&&(if have_ then gg aq c (nums.getD i aM) (nums.getD k aM) else(!eS nums ab i k&& !eS nums ab k i))
def re(aq nums:List Term)(eqs:List fO)(c:List Nat):List D:=[.dt (aN aq),.dt (aN nums),.dt (cO eqs),.dt (bQ c)]
attribute [go_sem] re
theorem FY{α:Type}{p q:α→Bool}:∀{l:List α},(∀x∈l,p x=q x)→l.takeWhile p=l.takeWhile q∧l.dropWhile p=l.dropWhile q
 | [],_=>⟨rfl,rfl⟩
 | x::l,h=>by
   obtain⟨h1,h2⟩:=FY (l:=l) fun y hy=>h y (bh _ hy)
   rw[nx,nx,ny,ny,h x (by simp),h1,h2]
   exact⟨rfl,rfl⟩
def nM(rows:List Row)(r:Row):List Row:=
 match rows.dropWhile fun x=>dv x r with
 | []=>rows.takeWhile (fun x=>dv x r)++[r]
 | x::xs=>if x.name=r.name∧x.args=r.args then rows else rows.takeWhile (fun x=>dv x r)++r::x::xs
theorem Hp{rows:List Row}{r:Row}(hr:dI r.args=true)(hrs:∀x∈rows,dI x.args=true):putRow rows r=nM rows r:=by
 have e:∀x∈rows,decide (fc x r<0)=dv x r:=fun x hx=>by
  have h:=lH (hrs x hx) hr
  cases hl:dv x r
  ·exact decide_eq_false fun h1=>by rw[h.1 h1] at hl;cases hl
  ·exact decide_eq_true (h.2 hl)
 obtain⟨e1,e2⟩:=FY e
 have nq:∀x∈rows.dropWhile (fun x=>dv x r),x∈rows:=fun x hx=>(List.dropWhile_sublist _).subset hx
 unfold putRow nM
 simp only[e1,e2]
 cases hd:rows.dropWhile (fun x=>dv x r) with
 | nil=>rfl
 | cons x xs=>
   rw[hd] at nq
   have h:=qI (hrs x (nq x (by simp))) hr
   simp only
   rcases aa (fc x r=0) with hc|hc
   ·rw[if_pos hc,if_pos (h.1 hc)]
   ·rw[if_neg hc,if_neg fun h1=>hc (h.2 h1)]
theorem Gt{rows:List Row}{r x:Row}(h:x∈putRow rows r):x∈rows∨x=r:=by
 unfold putRow at h
 have hs1:∀x∈rows.takeWhile (fun x=>decide (fc x r<0)),x∈rows:=fun x hx=>(List.takeWhile_sublist _).subset hx
 have hs2:∀x∈rows.dropWhile (fun x=>decide (fc x r<0)),x∈rows:=fun x hx=>(List.dropWhile_sublist _).subset hx
 simp only at h
 split at h
 ·rcases aP.1 h with h|h
  ·exact .inl (hs1 _ h)
  ·exact .inr (by simpa using h)
 ·rename_i y ys hd
  rw[hd] at hs2
  split at h
  ·exact .inl h
  ·rcases aP.1 h with h|h
   ·exact .inl (hs1 _ h)
   ·rcases ay.1 h with h|h
    ·exact .inr h
    ·exact .inl (hs2 _ h)
theorem Hn(rows:List Row)(r:Row):(putRow rows r).length≤rows.length+1:=by
 unfold putRow
 have h:=congrArg List.length (List.takeWhile_append_dropWhile (p:=fun x=>decide (fc x r<0)) (l:=rows))
 rw[List.length_append] at h
 simp only
 split
 ·rename_i hd
  rw[hd] at h
  simp at h⊢
  omega
 ·rename_i y ys hd
  rw[hd] at h
  split
  ·omega
  ·simp at h⊢
   omega
def rG(p:Row→Bool)(rows:List Row)(i:Nat):Prop:=rows.takeWhile p=rows.take i++(rows.drop i).takeWhile p∧rows.dropWhile p=(rows.drop i).dropWhile p
theorem rG.zero(p:Row→Bool)(rows:List Row):rG p rows 0:=⟨by simp,by simp⟩
theorem rG.step{p:Row→Bool}{rows:List Row}{i:Nat}(h:rG p rows i)(hi:i<rows.length)(hp:p rows[i]=true):rG p rows (i+1):=by
 obtain⟨h1,h2⟩:=h
 rw[ae hi] at h1 h2
 rw[nx,if_pos hp] at h1
 rw[ny,if_pos hp] at h2
 refine⟨?_,h2⟩
 rw[h1,List.take_add_one,ah hi,List.append_assoc]
 rfl
theorem rG.stop{p:Row→Bool}{rows:List Row}{i:Nat}(h:rG p rows i)(hi:i<rows.length)(hp:p rows[i]=false):rows.takeWhile p=rows.take i∧rows.dropWhile p=rows[i]::rows.drop (i+1):=by
 obtain⟨h1,h2⟩:=h
 rw[ae hi] at h1 h2
 rw[nx,if_neg (by rw[hp];simp),List.append_nil] at h1
 rw[ny,if_neg (by rw[hp];simp)] at h2
 exact⟨h1,h2⟩
theorem rG.done{p:Row→Bool}{rows:List Row}{i:Nat}(h:rG p rows i)(hi:rows.length≤i):rows.takeWhile p=rows∧rows.dropWhile p=[]:=by
 obtain⟨h1,h2⟩:=h
 rw[ai hi] at h1 h2
 rw[List.take_of_length_le hi] at h1
 exact⟨by simpa using h1,h2⟩
theorem Wy{aq nums:List Term}{c:List Nat}{aH:List Rat}{t:Term}(hc:∀x∈c,x≤1000)(hv:∀x∈aH,bX x=true):bX (iJ aq nums c aH t)=true:=by
 have hle:cl c (aG aq t)≤1000:=by
  rcases b6 (aG aq t) c.length with h1|h1
  ·exact hc _ (Ai h1)
  ·rw[Y0 h1];omega
 unfold iJ
 split
 ·exact rX (by omega) (by omega)
 ·rcases b6 (aG nums t) aH.length with h1|h1
  ·exact hv _ (mQ h1)
  ·rw[List.getD_eq_getElem?_getD,br h1]
   exact rX (by omega) (by omega)
theorem rU{aq nums:List Term}{c:List Nat}{aH:List Rat}{t:Term}(hc:∀x∈c,x≤1000)(hv:∀x∈aH,bX x=true):dI (iB aq nums c aH t).args=true:=by
 unfold dI
 refine c5.2 fun x hx=>?_
 simp only[iB,bG] at hx
 obtain⟨k,_,rfl⟩:=hx
 exact Wy hc hv
theorem A5{list:List iV}(h:(bL list).code=0):(bL list).aH.length=4∧∀x∈(bL list).aH,bX x=true:=by
 have mR:∀v,lg list v=true→v.length=4∧∀x∈v,bX x=true:=fun v hv=>by
  simp only[lg,qx,al,decide_eq_true_eq,c5] at hv
  exact hv.2.1
 have hend:∀s0 s1 s2 s3 rows,(ik list s0 s1 s2 s3 rows).code=0→(ik list s0 s1 s2 s3 rows).aH.length=4∧∀x∈(ik list s0 s1 s2 s3 rows).aH,bX x=true:=fun s0 s1 s2 s3 rows h=>by
  unfold ik at h⊢
  split at h
  ·split at h<;>simp at h
  ·split at h
   ·simp at h
   ·split at h
    ·rename_i hf
     rw[if_pos hf]
     exact mR _ hf
    ·simp at h
 unfold bL at h⊢
 split at h
 ·rename_i hs
  rw[if_pos hs]
  split at h
  ·simp at h
  ·split at h
   ·simp at h
   ·split at h
    ·simp at h
    ·split at h
     ·simp at h
     ·exact hend _ _ _ _ _ h
 ·simp at h
theorem Ny{t:Term}(h:isTerm t=true):t.kids.length≤2:=by
 have h1:=gK h
 cases t with
 | mk n ks=>
   simp only[bO,al,decide_eq_true_eq] at h1
   exact h1.2.1
theorem BA{a:Atom}(h:cQ a=true):a.times.length≤4:=by
 rcases aa (a.kind=1) with h1|h1
 ·simp only[cQ,if_pos h1,al,decide_eq_true_eq] at h
  omega
 ·rcases aa (a.kind=2) with h2|h2
  ·have:=mM h h2
   omega
  ·simp[cQ,h1,h2] at h
section
variable{s:dK}{ab:List bm}(h:ic s ab)
include h
theorem ic.NF:∀t∈aw ab,t.kids.length≤1000:=fun t ht=>by
 have:=Ny (h.term t ht)
 omega
theorem ic.U5:(aw ab).length≤1000:=by
 have:=h.n24
 omega
theorem ic.Bx:∀e∈aZ ab,e.A∈aw ab∧e.B∈aw ab:=fun e he=>⟨(h.eqs e he).1,(h.eqs e he).2.1⟩
theorem ic.Vy:∀e∈aZ ab,(e.A∈numsOf s ab↔e.B∈numsOf s ab):=fun e he=>(h.eqs e he).2.2
theorem ic.MP:(closed (aw ab) (aZ ab)).1.length=(aw ab).length:=Nb (mO h.Bx)
theorem ic.K3:∀x∈(closed (aw ab) (aZ ab)).1,x≤1000:=by
 have hk:=mO h.Bx
 have h1:=u9 hk _ (Nat.le_refl _)
 rw[←hk.2] at h1
 intro x hx
 have h2:=V9 hx
 have h3:(bx (aw ab).length).sum≤(bx (aw ab).length).length*23:=pq fun x hx=>by
  have:=ff.1 hx
  have:=h.n24
  omega
 have h4:(bx (aw ab).length).length*23≤24*23:=Nat.mul_le_mul_right _ (by simpa using h.n24)
 omega
theorem ic.K1:∀l∈ab,l.atom.kind=1→l.atom.A∈aw ab∧l.atom.B∈aw ab:=fun l hl hk=>by
 have hm:cf l.atom=[l.atom.A,l.atom.B]:=by simp[cf,hk]
 exact⟨h.has l hl _ (by rw[hm];simp),h.has l hl _ (by rw[hm];simp)⟩
end
theorem FD(s:dK)(ab:List bm):(aw ab).filter (dw s)=numsOf s ab:=rfl
theorem vS{aq nums:List Term}{c:List Nat}{ab:List bm}{i k:Nat}(h:dU false aq nums c ab i k=true):qS nums ab i k=true:=h
theorem rl{v:Bool}{aq nums:List Term}{c:List Nat}{ab:List bm}{i k:Nat}(h:dU v aq nums c ab i k=true):linked nums ab i k=false:=by
 unfold dU at h
 cases hl:linked nums ab i k
 ·rfl
 ·rw[hl] at h;simp at h
def Next(s:dK)(ab:List bm)(l:bm):Prop:=ic s (ab++[l])∧aw (ab++[l])=aw ab∧numsOf s (ab++[l])=numsOf s ab∧room (numsOf s ab) (ab++[l])<room (numsOf s ab) ab
theorem E2{s:dK}{ab:List bm}(h:ic s ab){i k:Nat}(h1:i<k)(h2:k<(numsOf s ab).length)(hl:linked (numsOf s ab) ab i k=false):Next s ab (hU ((numsOf s ab).getD i aM) ((numsOf s ab).getD k aM)):=by
 obtain⟨g1,g2,g3⟩:=h.eq (a:=(numsOf s ab).getD i aM) (b:=(numsOf s ab).getD k aM) (mQ (by omega)) (mQ h2)
 exact⟨g1,g2,g3,YI h.sj h1 h2 hl⟩
theorem A8{s:dK}{ab:List bm}(h:ic s ab){i k:Nat}(h1:i<k)(h2:k<(numsOf s ab).length):(numsOf s ab).getD i aM≠(numsOf s ab).getD k aM:=fun e=>by
 have a1:=jG h.sj (by omega:i<(numsOf s ab).length)
 have a2:=jG h.sj h2
 rw[e7 (by omega),e7 h2] at e
 rw[e] at a1
 omega
theorem Td{s:dK}{ab:List bm}(h:ic s ab){i k:Nat}(h1:i<k)(h2:k<(numsOf s ab).length)(hl:qS (numsOf s ab) ab i k=true):Next s ab (eE ((numsOf s ab).getD i aM) ((numsOf s ab).getD k aM))∧Next s ab (eE ((numsOf s ab).getD k aM) ((numsOf s ab).getD i aM)):=by
 have jJ:=A8 h h1 h2
 have hi:=mQ (d:=aM) (by omega:i<(numsOf s ab).length)
 have hk:=mQ (d:=aM) h2
 obtain⟨g1,g2,g3⟩:=h.less hi hk jJ
 obtain⟨f1,f2,f3⟩:=h.less hk hi (Ne.symm jJ)
 exact⟨⟨g1,g2,g3,JO h1 h2 hl (.inl rfl)⟩,⟨f1,f2,f3,JO h1 h2 hl (.inr rfl)⟩⟩
theorem xw{s:dK}{ab:List bm}(h:ic s ab){i k:Nat}(h1:i<k)(h2:k<(numsOf s ab).length)(hl:qS (numsOf s ab) ab i k=true):∀l∈fS ((numsOf s ab).getD i aM) ((numsOf s ab).getD k aM),Next s ab l:=by
 have hlk:linked (numsOf s ab) ab i k=false:=rl (v:=false) (aq:=[]) (c:=[]) hl
 obtain⟨n1,n2⟩:=Td h h1 h2 hl
 intro l hm
 simp only[fS,ay,ba,or_false] at hm
 rcases hm with rfl|rfl|rfl
 ·exact E2 h h1 h2 hlk
 ·exact n1
 ·exact n2
theorem mF{run:List bm→Ag}{a b:Term}{l:List bm}{ls:List (List bm)}{out:List Case}:mj run a b (l::ls) out=if(run l).code=1 then mj run a b ls (out++[(run l).case]) else⟨(run l).model,ng,(run l).code⟩:=rfl
theorem ob{run:List bm→Ag}{a b:Term}{out:List Case}:mj run a b [] out=⟨jo,.mk 4 0 sU [] a b out,1⟩:=rfl
theorem V5(n:Nat):atI (some n)=n:=rfl
theorem TO:atI none = -1:=rfl
section
variable{s:dK}{aq nums:List Term}{f:Nat}{ab:List bm}
theorem so(h:12<(aZ ab).length):fW s aq nums (f+1) ab=ph:=by
 simp only[fW,if_pos h]
variable(h:¬12<(aZ ab).length)
include h
theorem pQ{n:Nat}(hc:jQ (iA aq (closed aq (aZ ab)).1) ab=some n):fW s aq nums (f+1) ab=⟨jo,.mk 1 n (l6 aq (closed aq (aZ ab)).2 (ab.getD n ED).atom.A (ab.getD n ED).atom.B) [] aM aM [],1⟩:=by
 simp only[fW,if_neg h,hc]
variable(hc:jQ (iA aq (closed aq (aZ ab)).1) ab=none)
include hc
theorem sn(hf:(bL (dF nums ab)).code=1):fW s aq nums (f+1) ab=⟨jo,.mk 2 0 sU (bL (dF nums ab)).times aM aM [],1⟩:=by
 simp only[fW,if_neg h,hc,if_pos hf]
theorem rY(hf:(bL (dF nums ab)).code≠1)(hf2:(bL (dF nums ab)).code≠0):fW s aq nums (f+1) ab=ph:=by
 simp only[fW,if_neg h,hc,if_neg hf,if_pos hf2]
variable(hf:(bL (dF nums ab)).code=0)
include hf
theorem rF{q:Nat×Nat}(hp:bW nums.length (dU true aq nums (closed aq (aZ ab)).1 ab)=some q):fW s aq nums (f+1) ab=wW (l6 aq (closed aq (aZ ab)).2 (nums.getD q.1 aM) (nums.getD q.2 aM)) (fW s aq nums f (ab++[hU (nums.getD q.1 aM) (nums.getD q.2 aM)])):=by
 have hp':bW nums.length (fun i k=>!linked nums ab i k&&gg aq (closed aq (aZ ab)).1 (nums.getD i aM) (nums.getD k aM))=some q:=hp
 have h1:¬ (bL (dF nums ab)).code=1:=by omega
 simp only[fW,if_neg h,hc,if_neg h1,hf,ne_eq,not_true_eq_false,if_false,hp']
 rw[if_neg (by decide)]
variable(hp:bW nums.length (dU true aq nums (closed aq (aZ ab)).1 ab)=none)
include hp
theorem oT{q:Nat×Nat}(hq:bW nums.length (dU false aq nums (closed aq (aZ ab)).1 ab)=some q):fW s aq nums (f+1) ab=mj (fW s aq nums f) (nums.getD q.1 aM) (nums.getD q.2 aM) ((fS (nums.getD q.1 aM) (nums.getD q.2 aM)).map fun l=>ab++[l]) []:=by
 have hp':bW nums.length (fun i k=>!linked nums ab i k&&gg aq (closed aq (aZ ab)).1 (nums.getD i aM) (nums.getD k aM))=none:=hp
 have hq':bW nums.length (fun i k=>!linked nums ab i k&&(!eS nums ab i k&& !eS nums ab k i))=some q:=hq
 have h1:¬ (bL (dF nums ab)).code=1:=by omega
 simp only[fW,if_neg h,hc,if_neg h1,hf,ne_eq,not_true_eq_false,if_false,hp',hq']
 rw[if_neg (by decide)]
variable(hq:bW nums.length (dU false aq nums (closed aq (aZ ab)).1 ab)=none)
include hq
theorem pL:fW s aq nums (f+1) ab=if ie s ⟨hJ aq nums (closed aq (aZ ab)).1 (bL (dF nums ab)).aH⟩ ab=true then⟨⟨hJ aq nums (closed aq (aZ ab)).1 (bL (dF nums ab)).aH⟩,ng,0⟩ else ph:=by
 have hp':bW nums.length (fun i k=>!linked nums ab i k&&gg aq (closed aq (aZ ab)).1 (nums.getD i aM) (nums.getD k aM))=none:=hp
 have hq':bW nums.length (fun i k=>!linked nums ab i k&&(!eS nums ab i k&& !eS nums ab k i))=none:=hq
 have h1:¬ (bL (dF nums ab)).code=1:=by omega
 simp only[fW,if_neg h,hc,if_neg h1,hf,ne_eq,not_true_eq_false,if_false,hp',hq']
 rw[if_neg (by decide)]
end
def zt(e:Edge):List D:=[.val (.int .i64 (e.step:Int)),.val (.bool e.back)]
def dp(l:List Edge):List (List D):=l.map zt
theorem KV(l:List Edge):(dp l).length=l.length:=by simp[dp]
theorem vM{l:List Edge}{i:Nat}(h:i<l.length):row (dp l) i=zt l[i]:=by simp[dp,row,List.getD,ah h]
theorem L4(l:List Edge):∀y∈dp l,y.length=2:=by
 intro y hy
 obtain⟨t,_,rfl⟩:=bG.1 hy
 rfl
theorem rk(a b:List Edge):dp a++dp b=dp (a++b):=by simp[dp]
theorem oI:dp []=[]:=rfl
theorem qh(n:Edge)(l:List Edge):dp (n::l)=zt n::dp l:=rfl
theorem LO{l:List Edge}{i:Nat}{e:Edge}:(dp l).set i (zt e)=dp (l.set i e):=by simp[dp,List.map_set]
attribute [go_sem] KV vM oI zt
structure LP{α:Type}(l ys:List α)(i:Nat):Prop where
 len:ys.length=l.length
 at_:∀k,k<l.length→ys[k]?=if k<i∨l.length-1-k<i then l[l.length-1-k]? else l[k]?
theorem LP.zero{α:Type}(l:List α):LP l l 0:=⟨rfl,fun k _=>by simp⟩
theorem LP.step{α:Type}{l ys:List α}{i j:Nat}(h:LP l ys i)(hij:i<j)(hj:i+j+1=l.length)(hi':i<ys.length)(hj':j<ys.length):LP l ((ys.set i ys[j]).set j ys[i]) (i+1):=by
 have dy:=h.len
 refine⟨by simp[dy],fun k hk=>?_⟩
 have e1:ys[j]?=some ys[j]:=ah hj'
 have e2:ys[i]?=some ys[i]:=ah hi'
 have a1:=h.at_ j (by omega)
 have a2:=h.at_ i (by omega)
 have a3:=h.at_ k hk
 rw[if_neg (by omega)] at a1 a2
 rw[e1] at a1
 rw[e2] at a2
 rcases Nat.lt_trichotomy k j with h1|h1|h1
 ·rw[ko (by omega)]
  rcases aa (k=i) with h2|h2
  ·subst h2
   rw[o3 hi',if_pos (.inl (by omega)),a1]
   congr 1
   omega
  ·rw[ko (by omega),a3]
   rcases aa (k<i∨l.length-1-k<i) with h3|h3
   ·rw[if_pos h3,if_pos (by omega)]
   ·rw[if_neg h3,if_neg (by omega)]
 ·subst h1
  rw[o3 (by simpa using hj'),if_pos (.inr (by omega)),a2]
  congr 1
  omega
 ·rw[ko (by omega),ko (by omega),a3,if_pos (by omega),if_pos (by omega)]
theorem LP.done{α:Type}{l ys:List α}{i:Nat}(h:LP l ys i)(hi:l.length≤2*i+1):ys=l.reverse:=by
 apply List.ext_getElem?
 intro k
 rcases b6 k l.length with h1|h1
 ·rw[h.at_ k h1,List.getElem?_reverse h1]
  rcases aa (k<i∨l.length-1-k<i) with h2|h2
  ·rw[if_pos h2]
  ·rw[if_neg h2]
   congr 1
   omega
 ·rw[br (by rw[h.len];exact h1),br (by simpa using h1)]
def AE(ct:List (Nat×Edge)):List (Int×Value):=(iO ct).map fun(v:Nat)=>((v:Int),Value.bool true)
def ox(ct:List (Nat×Edge)):List (Int×Value):=(ct.drop 1).map fun p=>((p.1:Int),Value.agg #[.int .i64 (p.2.step:Int),.bool p.2.back])
theorem BS(a b:List (Nat×Edge)):AE (a++b)=AE a++AE b:=by simp[AE,iO]
theorem s6{a:List (Nat×Edge)}{p:Nat×Edge}(h:0<a.length):ox (a++[p])=ox a++[((p.1:Int),Value.agg #[.int .i64 (p.2.step:Int),.bool p.2.back])]:=by
 unfold ox
 rw[List.drop_append_of_le_length (by omega),List.map_append]
 rfl
theorem Kc:∀{l:List Nat}{n:Nat},n∈l→kz (l.map fun(v:Nat)=>((v:Int),Value.bool true)) (n:Int)=some (.bool true)
 | v::l,n,h=>by
   simp only[aQ,kz]
   rcases aa ((n:Int)=(v:Int)) with h1|h1
   ·rw[if_pos h1]
   ·rw[if_neg h1]
    rcases ay.1 h with h|h
    ·exact absurd (by rw[h]) h1
    ·exact Kc h
theorem GM:∀{l:List Nat}{n:Nat},n∉l→kz (l.map fun(v:Nat)=>((v:Int),Value.bool true)) (n:Int)=none
 | [],_,_=>rfl
 | v::l,n,h=>by
   simp only[aQ,kz]
   rw[if_neg (fun e=>h (by simp[show n=v by omega]))]
   exact GM fun h1=>h (bh _ h1)
theorem Aw{ct:List (Nat×Edge)}{n:Nat}(h:n∈iO ct):kz (AE ct) (n:Int)=some (.bool true):=Kc h
theorem rh{ct:List (Nat×Edge)}{n:Nat}(h:n∉iO ct):kz (AE ct) (n:Int)=none:=GM h
theorem A3:∀{l:List (Nat×Edge)}{j:Nat}{v:Nat}{e:Edge},(l.map Prod.fst).Nodup→l[j]?=some (v,e)→kz (l.map fun p=>((p.1:Int),Value.agg #[.int .i64 (p.2.step:Int),.bool p.2.back])) (v:Int)=some (.agg #[.int .i64 (e.step:Int),.bool e.back])
 | [],j,v,e,_,h=>by simp at h
 | p::l,0,v,e,_,h=>by
   simp only[List.getElem?_cons_zero,Option.some.injEq] at h
   subst h
   simp[kz]
 | p::l,j+1,v,e,hn,h=>by
   simp only[List.getElem?_cons_succ] at h
   simp only[aQ,cI] at hn
   have hm:v∈l.map Prod.fst:=bG.2 ⟨(v,e),List.mem_of_getElem? h,rfl⟩
   simp only[aQ,kz]
   rw[if_neg (fun e1=>hn.1 (by rw[show p.1=v by omega];exact hm))]
   exact A3 hn.2 h
theorem IP{ct:List (Nat×Edge)}(hn:(iO ct).Nodup){j v:Nat}{e:Edge}(hj:0<j)(h:ct[j]?=some (v,e)):kz (ox ct) (v:Int)=some (.agg #[.int .i64 (e.step:Int),.bool e.back]):=by
 refine A3 (j:=j-1) ?_ ?_
 ·rw[List.map_drop]
  exact hn.sublist (List.drop_sublist _ _)
 ·rw[List.getElem?_drop,show 1+(j-1)=j by omega]
  exact h
theorem rP{ct:List (Nat×Edge)}{n:Nat}(h:n∉iO ct):kz (ox ct) (n:Int)=none:=by
 have key:∀{l:List (Nat×Edge)},(∀p∈l,p.1≠n)→kz (l.map fun p=>((p.1:Int),Value.agg #[.int .i64 (p.2.step:Int),.bool p.2.back])) (n:Int)=none:=by
  intro l
  induction l with
  | nil=>intro _;rfl
  | cons p l ih=>
    intro hl
    simp only[aQ,kz]
    rw[if_neg (fun e=>hl p (by simp) (by omega))]
    exact ih fun q hq=>hl q (bh _ hq)
 refine key fun p hp e=>h ?_
 rw[←e]
 exact bG.2 ⟨p,fF hp,rfl⟩
def zR(aj:List Step)(k:Nat)(ct:List (Nat×Edge))(v:Nat):Prop:=∀j,j<k→(vA aj j=v→vB aj j∈iO ct)∧(vB aj j=v→vA aj j∈iO ct)
theorem MY(aj:List Step)(ct:List (Nat×Edge))(v:Nat):zR aj 0 ct v:=fun j hj=>by omega
theorem QG{aj:List Step}{n:Nat}{ct:List (Nat×Edge)}{v:Nat}(h:zR aj n ct v):Seen aj n ct v:=h
theorem n8{aj:List Step}{k:Nat}{ct:List (Nat×Edge)}{v:Nat}(h:zR aj k ct v)(h1:vA aj k=v→vB aj k∈iO ct)(h2:vB aj k=v→vA aj k∈iO ct):zR aj (k+1) ct v:=fun j hj=>by
 rcases b6 j k with h3|h3
 ·exact h j h3
 ·obtain rfl:j=k:=by omega
  exact⟨h1,h2⟩
theorem DS{aj:List Step}{k:Nat}{a b:List (Nat×Edge)}{v:Nat}(h:zR aj k a v):zR aj k (a++b) v:=JB (n:=k) h
theorem JH:∀(rs:List Row)(t:Row),rs.takeWhile (fun x=>decide (fc x t<0))=rs.take (cut rs t)∧rs.dropWhile (fun x=>decide (fc x t<0))=rs.drop (cut rs t)
 | [],_=>by simp[cut]
 | r::rs,t=>by
   obtain⟨h1,h2⟩:=JH rs t
   rcases aa (fc r t<0) with h|h
   ·simp[cut,h,h1,h2]
   ·simp[cut,h]
theorem sr(rs:List Row)(t:Row):putRow rs t=if found rs t then rs else rs.take (cut rs t)++t::rs.drop (cut rs t):=by
 obtain⟨h1,h2⟩:=JH rs t
 unfold putRow found
 simp only[h1,h2]
 rcases b6 (cut rs t) rs.length with h|h
 ·rw[ae h,ah h]
  rcases aa (fc rs[cut rs t] t=0) with hc|hc
  ·simp[hc]
  ·simp[hc]
 ·rw[ai h,br h]
  simp
theorem zu{a b:Rat}(ha:bX a=true)(hb:bX b=true)(h:a≠b):cY a b=true∨cY b a=true:=by
 rw[fB ha hb,fB hb ha]
 have h1:a.N*b.D≠b.N*a.D:=fun e=>h (CH ha hb e)
 omega
theorem w6:∀{as bs:List Rat},dI as=true→dI bs=true→as.length=bs.length→as≠bs→gk as bs=true∨gk bs as=true
 | [],[],_,_,_,h=>absurd rfl h
 | [],b::bs,_,_,h,_=>by simp at h
 | a::as,[],_,_,h,_=>by simp at h
 | a::as,b::bs,h1,h2,h3,h4=>by
   simp only[dI,List.all_cons,al] at h1 h2
   simp only[gk]
   rcases aa (a=b) with h|h
   ·rw[if_pos h,if_pos h.symm]
    exact w6 h1.2 h2.2 (by simpa using h3) fun e=>h4 (by rw[h,e])
   ·rw[if_neg h,if_neg (Ne.symm h)]
    exact zu h1.1 h2.1 h
theorem NA{a b:nz}(h:a≠b):gy a b=true∨gy b a=true:=by
 cases h1:gy a b
 ·cases h2:gy b a
  ·exact absurd (qp.1 (by simp[nP,h1,h2])) h
  ·exact .inr rfl
 ·exact .inl rfl
theorem It{a b:Row}(ha:dI a.args=true)(hb:dI b.args=true)(h:¬ (a.name=b.name∧a.args=b.args)):dv a b=true∨dv b a=true:=by
 unfold dv
 rcases aa (a.name=b.name) with h1|h1
 ·rw[if_pos h1,if_pos h1.symm]
  rcases aa (a.args.length=b.args.length) with h2|h2
  ·rw[if_pos h2,if_pos h2.symm]
   exact w6 ha hb h2 fun e=>h ⟨h1,e⟩
  ·rw[if_neg h2,if_neg (Ne.symm h2)]
   rcases b6 a.args.length b.args.length with h3|h3
   ·exact .inl (decide_eq_true h3)
   ·exact .inr (decide_eq_true (by omega))
 ·rw[if_neg h1,if_neg (Ne.symm h1)]
  exact NA h1
theorem JV{rs:List Row}{t:Row}(h1:∀r∈rs,dI r.args=true)(h2:rs.Pairwise (fun a b=>dv a b=true))(ht:dI t.args=true):lA rs t:=by
 refine List.Pairwise.imp_of_mem ?_ h2
 intro a b ha hb hab hbt
 have wa:=h1 a ha
 have wb:=h1 b hb
 rw[lH wb ht] at hbt
 rw[lH wa ht]
 exact qj wa wb ht hab hbt
theorem NW{rs:List Row}{t:Row}(h1:∀r∈rs,dI r.args=true)(h2:rs.Pairwise (fun a b=>dv a b=true))(ht:dI t.args=true):(putRow rs t).Pairwise (fun a b=>dv a b=true):=by
 have hm:=JV h1 h2 ht
 have hc:=fun k h=>tv hm k h
 rw[sr]
 cases hf:found rs t
 ·rw[if_neg (by simp)]
  have hsplit:=h2
  rw[←List.take_append_drop (cut rs t) rs] at hsplit
  obtain⟨p1,p2,p3⟩:=List.pairwise_append.1 hsplit
  have hlo:∀x∈rs.take (cut rs t),dv x t=true:=fun x hx=>by
   obtain⟨k,hk,rfl⟩:=List.mem_iff_getElem.1 hx
   have hk2:k<cut rs t:=by rw[bU] at hk;omega
   have hk3:k<rs.length:=by rw[bU] at hk;omega
   rw[List.getElem_take]
   exact(lH (h1 _ (ak hk3)) ht).1 ((hc k hk3).1 hk2)
  have hhi:∀y∈rs.drop (cut rs t),dv t y=true:=fun y hy=>by
   rcases b6 (cut rs t) rs.length with h|h
   ·have w0:=h1 _ (ak h)
    have n1:¬fc rs[cut rs t] t<0:=fun e=>by
     have:=(hc _ h).2 e
     omega
    have n2:fc rs[cut rs t] t≠0:=fun e=>by
     rw[found,ah h] at hf
     simp[e] at hf
    have h0:dv t rs[cut rs t]=true:=by
     rcases It w0 ht (fun e=>n2 ((qI w0 ht).2 e)) with h3|h3
     ·exact absurd ((lH w0 ht).2 h3) n1
     ·exact h3
    rw[ae h] at hy p2
    rcases ay.1 hy with rfl|hy2
    ·exact h0
    ·exact qj ht w0 (h1 _ (fF hy2)) h0 ((nZ.1 p2).1 y hy2)
   ·rw[ai h] at hy
    simp at hy
  refine List.pairwise_append.2 ⟨p1,nZ.2 ⟨hhi,p2⟩,fun x hx y hy=>?_⟩
  rcases ay.1 hy with rfl|hy
  ·exact hlo x hx
  ·exact p3 x hx y hy
 ·rw[if_pos rfl]
  exact h2
def vx(b:List Int)(s:dK)(p:Int):bm×Int:=(⟨(nV b s p).1,decide (dk b (nV b s p).2 3=0)⟩,(nV b s p).2+1)
theorem PH{b:List Int}(hb:yU b){s:dK}(h:fM s){p:Int}(hp:0≤p):p≤(vx b s p).2∧(vx b s p).2≤p+61:=by
 have h1:=Pm hb h hp
 simp only[vx]
 omega
def xD(b:List Int)(s:dK):Nat→List bm→Int→List bm×Int
 | 0,out,p=>(out,p)
 | n+1,out,p=>xD b s n (if fe s (out++[(vx b s p).1]) then out++[(vx b s p).1] else out) (vx b s p).2
def HR(b:List Int)(s:dK):Nat→List bm→Int→List bm×Int
 | 0,out,p=>(out,p)
 | n+1,out,p=>HR b s n (out++[(vx b s p).1]) (vx b s p).2
def xt(b:List Int)(s:dK)(p:Int):List bm×Int:=xD b s (jV b p [3,4,5,2,6,1,0]).toNat [] (p+1)
def HD(b:List Int)(p:Int):dK×List bm×Int:=
 let g:=NZ b p
 let r:=xt b g.1 g.2
 let k:=dk b r.2 48
 if k=0 then(g.1,r.1++[⟨(Dp b g.1 (r.2+1)).1,false⟩],(Dp b g.1 (r.2+1)).2) else
 if k=1 then(g.1,(HR b g.1 (7-r.1.length) r.1 (r.2+1)).1,(HR b g.1 (7-r.1.length) r.1 (r.2+1)).2) else
 if k=2 then((ji b (ji b g.1 (r.2+1)).1 (ji b g.1 (r.2+1)).2).1,r.1,(ji b (ji b g.1 (r.2+1)).1 (ji b g.1 (r.2+1)).2).2) else
 if k=3 then(g.1,r.1++[ED],r.2+1) else(g.1,r.1,r.2+1)
def No(b:List Int):dK×List bm:=((HD b 0).1,(HD b 0).2.1)
theorem RV{b:List Int}(hb:yU b){s:dK}(h:fM s):∀(n:Nat)(out:List bm)(p:Int),0≤p→p≤(xD b s n out p).2∧(xD b s n out p).2≤p+n*61∧(xD b s n out p).1.length≤out.length+n
 | 0,out,p,_=>by simp[xD]
 | n+1,out,p,hp=>by
   have h1:=PH hb h hp
   have h2:=RV hb h n (if fe s (out++[(vx b s p).1]) then out++[(vx b s p).1] else out) (vx b s p).2 (by omega)
   have h3:(if fe s (out++[(vx b s p).1]) then out++[(vx b s p).1] else out).length≤out.length+1:=by
    split
    ·simp
    ·omega
   simp only[xD]
   omega
theorem XG{b:List Int}(hb:yU b){s:dK}(h:fM s){p:Int}(hp:0≤p):p≤(xt b s p).2∧(xt b s p).2≤p+500∧(xt b s p).1.length≤6:=by
 have hm:=xK hb (p:=p) (l:=[3,4,5,2,6,1,0]) hp (by simp)
 simp only[ay,ba,or_false] at hm
 have hk:(jV b p [3,4,5,2,6,1,0]).toNat≤6:=by omega
 have:=RV hb h (jV b p [3,4,5,2,6,1,0]).toNat [] (p+1) (by omega)
 simp only[xt]
 simp only[List.length_nil] at this
 omega
theorem Ce{s:dK}{m:Model}{a c:List bm}(h:ie s m (a++c)=true):ie s m a=true:=by
 simp only[ie,List.all_append,al] at h⊢
 exact⟨h.1,h.2.1⟩
theorem Jb{run:List bm→Ag}{a b:Term}:∀{ls:List (List bm)}{out:List Case},(mj run a b ls out).code=0→∃l∈ls,(run l).code=0∧(mj run a b ls out).model=(run l).model
 | [],out,h=>by rw[ob] at h;simp at h
 | l::ls,out,h=>by
   rw[mF] at h⊢
   rcases aa ((run l).code=1) with h1|h1
   ·rw[if_pos h1] at h⊢
    obtain⟨x,hx,h2,h3⟩:=Jb h
    exact⟨x,bh _ hx,h2,h3⟩
   ·rw[if_neg h1] at h⊢
    exact⟨l,by simp,h,rfl⟩
theorem Gg{run:List bm→Ag}{a b:Term}:∀{ls:List (List bm)}{out:List Case},(mj run a b ls out).code=1→(mj run a b ls out).case.kind=4
 | [],out,h=>by rw[ob];rfl
 | l::ls,out,h=>by
   rw[mF] at h⊢
   rcases aa ((run l).code=1) with h1|h1
   ·rw[if_pos h1] at h⊢
    exact Gg h
   ·rw[if_neg h1] at h
    exact absurd h h1
section
variable{s:dK}{aq nums:List Term}
theorem GF:∀(f:Nat)(ab:List bm),((fW s aq nums f ab).code=0→ie s (fW s aq nums f ab).model ab=true)∧((fW s aq nums f ab).code=1→1≤(fW s aq nums f ab).case.kind)
 | 0,ab=>by
   constructor<;>(intro h;simp[fW,ph] at h)
 | f+1,ab=>by
   rcases aa (12<(aZ ab).length) with h12|h12
   ·rw[so h12]
    constructor<;>(intro h;simp[ph] at h)
   cases hc:jQ (iA aq (closed aq (aZ ab)).1) ab with
   | some n=>
     rw[pQ h12 hc]
     exact⟨fun h=>by simp at h,fun _=>by simp[Case.kind]⟩
   | none=>
   rcases aa ((bL (dF nums ab)).code=1) with h1|h1
   ·rw[sn h12 hc h1]
    exact⟨fun h=>by simp at h,fun _=>by simp[Case.kind]⟩
   rcases aa ((bL (dF nums ab)).code=0) with h0|h0
   ·cases hp:bW nums.length (dU true aq nums (closed aq (aZ ab)).1 ab) with
    | some q=>
      rw[rF h12 hc h0 hp]
      obtain⟨i1,i2⟩:=GF f (ab++[hU (nums.getD q.1 aM) (nums.getD q.2 aM)])
      generalize fW s aq nums f (ab++[hU (nums.getD q.1 aM) (nums.getD q.2 aM)])=r at *
      unfold wW
      rcases aa (r.code=1) with hr|hr
      ·rw[if_pos hr]
       exact⟨fun h=>by simp at h,fun _=>by simp[Case.kind]⟩
      ·rw[if_neg hr]
       exact⟨fun h=>Ce (i1 h),fun h=>absurd h hr⟩
    | none=>
    cases hq:bW nums.length (dU false aq nums (closed aq (aZ ab)).1 ab) with
    | some q=>
      rw[oT h12 hc h0 hp hq]
      refine⟨fun h=>?_,fun h=>by rw[Gg h];omega⟩
      obtain⟨l,hl,h2,h3⟩:=Jb h
      rw[h3]
      obtain⟨x,_,rfl⟩:=bG.1 hl
      exact Ce ((GF f (ab++[x])).1 h2)
    | none=>
      rw[pL h12 hc h0 hp hq]
      rcases aa (ie s ⟨hJ aq nums (closed aq (aZ ab)).1 (bL (dF nums ab)).aH⟩ ab=true) with hm|hm
      ·rw[if_pos hm]
       exact⟨fun _=>hm,fun h=>by simp at h⟩
      ·rw[if_neg hm]
       constructor<;>(intro h;simp[ph] at h)
   ·rw[rY h12 hc h1 h0]
    constructor<;>(intro h;simp[ph] at h)
theorem U4{ab:List bm}(h:(dL s ab).code=0):ie s (dL s ab).model ab=true:=by
 unfold dL at h⊢
 split at h
 ·rename_i hb
  rw[if_pos hb]
  exact(GF 13 ab).1 h
 ·simp at h
end
def abu(s:dK)(ab:List bm):List fO:=if fe s ab then aZ ab else []
def aaM(s:dK)(ab:List bm):List iV:=if fe s ab then dF (numsOf s ab) ab else []
def aa7(s:dK)(ab:List bm):List Term:=if fe s ab then numsOf s ab else []
theorem HS{α:Type}[DecidableEq α]:∀{l m:List α},l.Nodup→(∀x∈l,x∈m)→l.length≤m.length
 | [],_,_,_=>Nat.zero_le _
 | x::l,m,hn,hs=>by
   have hx:x∈m:=hs x (by simp)
   obtain⟨h1,h2⟩:=cI.1 hn
   have h3:=HS (l:=l) (m:=m.erase x) h2 fun y hy=>(List.mem_erase_of_ne (show y≠x from fun e=>h1 (by rw[←e];exact hy))).2 (hs y (by simp[hy]))
   have h4:=List.length_erase_of_mem hx
   have h5:=List.length_pos_of_mem hx
   simp only[List.length_cons]
   omega
mutual
theorem GL:∀(t:Term)(l p:List Term),gR p→t∈p→(∀u∈l,u∈p)→∀u∈de l t,u∈p
 | .mk n ks,l,p,hp,ht,hl,u,hu=>by
   have h1:=qT ks l p hp (fun k hk=>hp _ ht k hk) hl
   rw[de] at hu
   split at hu
   ·simp only[aP,ay,ba,or_false] at hu
    rcases hu with hu|rfl
    ·exact h1 u hu
    ·exact ht
   ·exact h1 u hu
theorem qT:∀(ts l p:List Term),gR p→(∀t∈ts,t∈p)→(∀u∈l,u∈p)→∀u∈a7 l ts,u∈p
 | [],l,p,_,_,hl,u,hu=>hl u (by simpa[a7] using hu)
 | t::ts,l,p,hp,ht,hl,u,hu=>by
   rw[a7] at hu
   exact qT ts _ p hp (fun x hx=>ht x (by simp[hx])) (GL t l p hp (ht t (by simp)) hl) u hu
end
theorem NT{ts p:List Term}(h:∀t∈ts,isTerm t=true)(hp:gR p)(hs:∀t∈ts,t∈p):(iX ts).length≤p.length:=by
 rw[kC h]
 exact HS (mZ ts [] (by simp)) (qT ts [] p hp hs (by simp))
theorem Kk{eqs:List fO}{t:Term}:t∈qE eqs↔∃e∈eqs,t=e.A∨t=e.B:=by simp[qE]
theorem Jg{ab:List bm}{e:fO}:e∈aZ ab↔∃l∈ab,l.atom.kind=1∧l.no=false∧e=⟨l.atom.A,l.atom.B⟩:=by
 simp only[aZ,List.mem_filterMap]
 constructor
 ·rintro⟨l,hl,h⟩
  split at h
  ·rename_i hk
   exact⟨l,hl,hk.1,hk.2,(Option.some.inj h).symm⟩
  ·cases h
 ·rintro⟨l,hl,h1,h2,h3⟩
  exact⟨l,hl,by rw[if_pos ⟨h1,h2⟩,h3]⟩
section
variable{s:dK}{ab:List bm}(h:fe s ab=true)
include h
theorem MU:∀l∈ab,fq s l.atom=true:=by
 simp only[fe,al,decide_eq_true_eq,c5] at h
 exact h.1.1.2
end
theorem FB{c:List Nat}{a b i k:Nat}(hi:i<c.length)(hk:k<c.length)(h:cl c i=cl c k):cl (gj c a b) i=cl (gj c a b) k:=by
 rw[xq hi,xq hk,h]
theorem rm{af:List Term}:∀(eqs:List fO)(n:Nat)(c:List Nat)(aj:List Step){i k:Nat},i<c.length→k<c.length→cl c i=cl c k→(iZ af n eqs c aj).1.length=c.length∧cl (iZ af n eqs c aj).1 i=cl (iZ af n eqs c aj).1 k
 | [],_,_,_,_,_,_,_,h=>⟨rfl,h⟩
 | e::es,n,c,aj,i,k,hi,hk,h=>by
   rw[iZ]
   split
   ·exact rm es (n+1) c aj hi hk h
   ·have:=rm (af:=af) es (n+1) (gj c (aG af e.A) (aG af e.B)) (aj++[⟨aG af e.A,aG af e.B,n⟩]) (i:=i) (k:=k) (by rw[fK];exact hi) (by rw[fK];exact hk) (FB hi hk h)
    rw[fK] at this
    exact this
theorem SE{c:List Nat}{a b:Nat}(ha:a<c.length)(hb:b<c.length):cl (gj c a b) a=cl (gj c a b) b:=(C8 ha hb).2 (.inr (.inl ⟨rfl,rfl⟩))
theorem xR{af:List Term}:∀(eqs:List fO)(n:Nat)(c:List Nat)(aj:List Step),c.length=af.length→(∀e∈eqs,e.A∈af∧e.B∈af)→∀e∈eqs,cl (iZ af n eqs c aj).1 (aG af e.A)=cl (iZ af n eqs c aj).1 (aG af e.B)
 | [],_,_,_,_,_,e,he=>by simp at he
 | x::es,n,c,aj,hc,kG,e,he=>by
   have hx:=kG x (by simp)
   have pA:aG af x.A<c.length:=by rw[hc];exact bA hx.1
   have pB:aG af x.B<c.length:=by rw[hc];exact bA hx.2
   rw[iZ]
   split
   ·rename_i hs
    rcases ay.1 he with rfl|he
    ·exact(rm es (n+1) c aj pA pB hs).2
    ·exact xR es (n+1) c aj hc (fun y hy=>kG y (by simp[hy])) e he
   ·rcases ay.1 he with rfl|he
    ·exact(rm es (n+1) _ _ (by rw[fK];exact pA) (by rw[fK];exact pB) (SE pA pB)).2
    ·exact xR es (n+1) _ _ (by rw[fK];exact hc) (fun y hy=>kG y (by simp[hy])) e he
theorem tr{af:List Term}:∀(eqs:List fO)(n:Nat)(c:List Nat)(aj:List Step),(iZ af n eqs c aj).1.length=c.length
 | [],_,_,_=>rfl
 | e::es,n,c,aj=>by
   rw[iZ]
   split
   ·exact tr es (n+1) c aj
   ·rw[tr es (n+1),fK]
theorem BK{af:List Term}:∀(f:Nat)(c:List Nat)(aj:List Step){i k:Nat},i<c.length→k<c.length→cl c i=cl c k→cl (kh af f c aj).1 i=cl (kh af f c aj).1 k
 | 0,_,_,_,_,_,_,h=>h
 | f+1,c,aj,i,k,hi,hk,h=>by
   rw[kh]
   split
   ·exact h
   ·exact BK f _ _ (by rw[fK];exact hi) (by rw[fK];exact hk) (FB hi hk h)
theorem Ph{af:List Term}{eqs:List fO}(kG:∀e∈eqs,e.A∈af∧e.B∈af){e:fO}(he:e∈eqs):gg af (closed af eqs).1 e.A e.B=true:=by
 have hl:(given af eqs).1.length=af.length:=by rw[given,tr,fV]
 have h1:=kG e he
 refine decide_eq_true (BK _ _ _ (by rw[hl];exact bA h1.1) (by rw[hl];exact bA h1.2) ?_)
 exact xR eqs 0 _ _ fV kG e he
end Go.Mod
