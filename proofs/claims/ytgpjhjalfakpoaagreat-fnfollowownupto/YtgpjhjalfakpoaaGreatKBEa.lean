/-
  What the functions of chapters 10 to 13 compute, in plain Lean: clauses, unit propagation, logs, clause form, papers. No program is walked here.
-/
import Derived.Test.YtgpjhjalfakpoaaGreatKBE
import Derived.Lib.SlicesCompact
set_option linter.unusedVariables false
set_option linter.unusedSimpArgs false
open Bool renaming and_eq_true→ae,false_eq_true→al,false_or→iQ
open Classical renaming em→aa,byContradiction→mv
open Int renaming natAbs_eq_natAbs_iff→fS
open List renaming getElem?_eq_getElem→ab,drop_eq_getElem_cons→af,drop_of_length_le→ag,getElem_mem→ah,take_of_length_le→an,length_append→ao,length_cons→aq,mem_cons→aw,mem_append→aG,length_take→aO,getElem?_append_left→aZ,length_map→bl,contains_iff_mem→bq,all_eq_true→bz,nil_append→bB,pairwise_cons→bF,mem_cons_of_mem→bI,mem_map→bQ,mem_singleton→bX,length_eq_zero_iff→cd,length_eq_one_iff→cj,mem_filter→cM,getElem?_drop→c9,filter_cons→dg,filter_append→fx,take_append_drop→hP,set_append_right→hQ,foldl_cons→iY,pairwise_singleton→jv,filter_eq_self→lj,pairwise_map→mS
open Nat renaming lt_or_ge→cI,zero_le→cN,lt_trichotomy→fN
open Option renaming map_some→db
namespace Go.Mod
open Go.Eng
def gq(many:Int):Option Int→List Int→Bool
 | _,[]=>true
 | p,l::ls=>dF l many&&((match p with|none=>true|some q=>decide (q.natAbs<l.natAbs))&&gq many (some l) ls)
def gJ(c:List Int)(many:Int):Bool:=within many 0 60&&gq many none c
def mK(c:dq):Bool:=within c.many 0 60&&(decide (c.list.length≤400)&&c.list.all fun x=>gJ x c.many)
def rz:List Int→Int→Option (List Int)
 | [],n=>some [n]
 | x::xs,n=>if x.natAbs<n.natAbs then(rz xs n).map (x :: ·) else if x.natAbs=n.natAbs then(if x=n then some (x::xs) else none) else some (n::x::xs)
def kW:List Int→List Int→Option (List Int)
 | out,[]=>some out
 | out,n::ns=>match rz out n with
   | none=>none
   | some o=>kW o ns
def dJ(list:List Int):Option (List Int):=if list.all fun l=>dF l 60 then kW [] list else none
def unit(put c:List Int):Int×Bool:=
 if c.any put.contains then(0,false) else match c.filter (fun l=>!put.contains (-l)) with
  | []=>(0,true)
  | [l]=>(l,false)
  | _=>(0,false)
def scan(put:List Int):List (List Int)→Int×Bool
 | []=>(0,false)
 | c::cs=>if(unit put c).2 then(0,true) else if(unit put c).1=0 then scan put cs else((unit put c).1,false)
def mQ(list:List (List Int)):Nat→List Int→List Int×Bool
 | 0,put=>(put,false)
 | n+1,put=>if(scan put list).2 then(put,true) else if(scan put list).1=0 then(put,false) else mQ list n (put++[(scan put list).1])
def eX(list:List (List Int))(put:List Int):List Int×Bool:=mQ list (61-put.length) put
def MY(c:dq)(clause:List Int):Bool:=mK c&&(gJ clause c.many&&(eX c.list (clause.map fun l=>-l)).2)
def Mc(many:Int):List (List Int)→List (List Int)→Bool
 | _,[]=>true
 | list,x::xs=>MY ⟨many,list⟩ x&&Mc many (list++[x]) xs
def NV(c:dq)(log:List (List Int)):Bool:=mK c&&(decide (log.length≤130)&&(decide (c.list.length+log.length≤400)&&Mc c.many c.list log))
def J8(log:List (List Int)):Bool:=match log.getLast? with|some []=>true|_=>false
def ck(c:dq)(list:List Int):dq:=match dJ list with|none=>c|some x=>⟨c.many,c.list++[x]⟩
def Dq(c:dq)(v a b:Int):dq:=ck (ck (ck c [v,-a]) [v,-b]) [-v,a,b]
def yg(c:dq)(v a b:Int):dq:=ck (ck (ck (ck c [-v,-a,b]) [-v,a,-b]) [v,a,b]) [v,-a,-b]
def iH(k:Int)(c:dq)(v a b:Int):dq:=if k=3 then Dq c (-v) (-a) (-b) else if k=4 then Dq c v a b else if k=5 then Dq c v (-a) b else yg c v a b
mutual
def a7(atoms:List Atom):Form→dq→dq×Int
 | .mk k l ks,c=>
   if k=1 then(c,if l.no then -(bD atoms l.atom+1) else bD atoms l.atom+1) else
   if k=2 then((dy atoms ks c).1,-((dy atoms ks c).2.getD 0 0)) else
   (iH k ⟨(dy atoms ks c).1.many+1,(dy atoms ks c).1.list⟩ ((dy atoms ks c).1.many+1) ((dy atoms ks c).2.getD 0 0) ((dy atoms ks c).2.getD 1 0),(dy atoms ks c).1.many+1)
def dy(atoms:List Atom):List Form→dq→dq×List Int
 | [],c=>(c,[])
 | t::ts,c=>((dy atoms ts (a7 atoms t c).1).1,(a7 atoms t c).2::(dy atoms ts (a7 atoms t c).1).2)
end
def gm(atoms:List Atom):List Form→dq→dq
 | [],c=>c
 | f::fs,c=>gm atoms fs (ck (a7 atoms f c).1 [(a7 atoms f c).2])
def I2:dq:=⟨0,[]⟩
def hU(list:List Form):dq:=match bS list with|none=>I2|some atoms=>gm atoms list ⟨atoms.length,[]⟩
def nQ(c:dq):List rY→dq
 | []=>c
 | l::ls=>nQ (ck c (l.marks.map fun m=>-m)) ls
def Jk(list:List Form)(p:zX):dq:=match bS list with
 | none=>I2
 | some atoms=>if decide (p.lemmas.length≤64)&&p.lemmas.all (fun l=>ik l.marks atoms.length) then nQ (hU list) p.lemmas else I2
def KG(s:eJ)(list:List Form)(p:zX):Bool:=
 eS s list&&(decide (p.lemmas.length≤64)&&(p.lemmas.all (LU s list)&&(NV (Jk list p) p.log&&J8 p.log)))
def mc(f:Form):Form:=.mk 2 Gx [f]
def Ou(s:eJ)(list:List Form)(f:Form)(p:zX):Bool:=KG s (list++[mc f]) p
def F6(l:List Int):Prop:=l.Pairwise fun a b=>a.natAbs<b.natAbs
theorem FD:∀{a b:List Int},F6 a→F6 b→(∀x,x∈a↔x∈b)→a=b
 | [],[],_,_,_=>rfl
 | [],y::ys,_,_,h=>by have:=(h y).2 (by simp);simp at this
 | x::xs,[],_,_,h=>by have:=(h x).1 (by simp);simp at this
 | x::xs,y::ys,ha,hb,h=>by
   obtain⟨a1,a2⟩:=bF.1 ha
   obtain⟨b1,b2⟩:=bF.1 hb
   have e:x=y:=by
    rcases aw.1 ((h x).1 (by simp)) with e|e
    ·exact e
    ·rcases aw.1 ((h y).2 (by simp)) with e2|e2
     ·exact e2.symm
     ·have:=b1 x e
      have:=a1 y e2
      omega
   subst e
   congr 1
   refine FD a2 b2 fun z=>?_
   constructor
   ·intro hz
    rcases aw.1 ((h z).1 (bI _ hz)) with e|e
    ·rw[e] at hz;have:=a1 x hz;omega
    ·exact e
   ·intro hz
    rcases aw.1 ((h z).2 (bI _ hz)) with e|e
    ·rw[e] at hz;have:=b1 x hz;omega
    ·exact e
theorem zw:∀{l:List Int}{n:Int},F6 l→n≠0 → -n∈l→rz l n=none
 | [],_,_,_,h=>by simp at h
 | x::xs,n,hi,hn,h=>by
   obtain⟨a1,a2⟩:=bF.1 hi
   rcases aw.1 h with e|e
   ·have h1:¬x.natAbs<n.natAbs:=by omega
    have h2:x.natAbs=n.natAbs:=by omega
    have h3:¬x=n:=by omega
    rw[rz,if_neg h1,if_pos h2,if_neg h3]
   ·have:=a1 _ e
    have h1:x.natAbs<n.natAbs:=by omega
    simp only[rz,h1,if_true,zw a2 hn e,Option.map_none]
theorem tQ:∀{l:List Int}{n:Int},F6 l → -n∉l→∃o,rz l n=some o∧F6 o∧∀x,x∈o↔x=n∨x∈l
 | [],n,_,_=>⟨[n],rfl,jv _ _,by simp⟩
 | x::xs,n,hi,hn=>by
   obtain⟨a1,a2⟩:=bF.1 hi
   rcases fN x.natAbs n.natAbs with h1|h1|h1
   ·obtain⟨o,e,i1,i2⟩:=tQ (n:=n) a2 (fun hh=>hn (bI _ hh))
    refine⟨x::o,by simp only[rz,h1,if_true,e,db],bF.2 ⟨fun y hy=>?_,i1⟩,fun z=>?_⟩
    ·rcases(i2 y).1 hy with e|e
     ·rw[e];exact h1
     ·exact a1 y e
    ·rw[aw,i2,aw]
     constructor
     ·rintro(h|h|h)
      ·exact .inr (.inl h)
      ·exact .inl h
      ·exact .inr (.inr h)
     ·rintro(h|h|h)
      ·exact .inr (.inl h)
      ·exact .inl h
      ·exact .inr (.inr h)
   ·have hx:x=n:=by
     rcases fS.1 h1 with e|e
     ·exact e
     ·exact absurd (by simp[e]) hn
    have h2:¬x.natAbs<n.natAbs:=by omega
    refine⟨x::xs,by rw[rz,if_neg h2,if_pos h1,if_pos hx],hi,fun z=>?_⟩
    rw[hx,aw]
    constructor
    ·intro h;exact .inr h
    ·rintro(h|h)
     ·exact .inl h
     ·exact h
   ·have h2:¬x.natAbs<n.natAbs:=by omega
    have h3:¬x.natAbs=n.natAbs:=by omega
    refine⟨n::x::xs,by simp only[rz,h2,h3,if_false],bF.2 ⟨fun y hy=>?_,hi⟩,fun z=>by rw[aw]⟩
    rcases aw.1 hy with e|e
    ·rw[e];exact h1
    ·have:=a1 y e;omega
def Fair(l:List Int):Prop:=∀x∈l,-x∉l
theorem uP:∀{ns out:List Int},F6 out→(∀x∈ns,-x∉ns ∧ -x∉out)→∃o,kW out ns=some o∧F6 o∧∀x,x∈o↔x∈ns∨x∈out
 | [],out,hi,_=>⟨out,rfl,hi,by simp⟩
 | n::ns,out,hi,h=>by
   obtain⟨h1,h2⟩:=h n (by simp)
   obtain⟨o,e,i1,i2⟩:=tQ (n:=n) hi h2
   obtain⟨o2,e2,j1,j2⟩:=uP (ns:=ns) i1 (fun x hx=>by
    obtain⟨q1,q2⟩:=h x (bI _ hx)
    refine⟨fun hh=>q1 (bI _ hh),fun hh=>?_⟩
    rcases(i2 (-x)).1 hh with e|e
    ·exact q1 (by rw[e];simp)
    ·exact q2 e)
   refine⟨o2,by simp only[kW,e,e2],j1,fun z=>?_⟩
   rw[j2,i2,aw]
   constructor
   ·rintro(h|h|h)
    ·exact .inl (.inr h)
    ·exact .inl (.inl h)
    ·exact .inr h
   ·rintro((h|h)|h)
    ·exact .inr (.inl h)
    ·exact .inl h
    ·exact .inr (.inr h)
theorem vb:∀{ns out:List Int},F6 out→(∀x∈ns,x≠0)→(∃x∈ns,-x∈ns ∨ -x∈out)→kW out ns=none
 | [],_,_,_,⟨x,hx,_⟩=>by simp at hx
 | n::ns,out,hi,h0,h=>by
   rcases aa (-n∈out) with hn|hn
   ·simp only[kW,zw hi (h0 n (by simp)) hn]
   ·obtain⟨o,e,i1,i2⟩:=tQ (n:=n) hi hn
    simp only[kW,e]
    refine vb i1 (fun x hx=>h0 x (bI _ hx)) ?_
    have hn0:=h0 n (by simp)
    obtain⟨x,hx,hh⟩:=h
    rcases aw.1 hx with ex|ex
    ·rw[ex] at hh
     rcases hh with hh|hh
     ·rcases aw.1 hh with e2|e2
      ·omega
      ·exact⟨-n,e2,.inr ((i2 _).2 (.inl (by omega)))⟩
     ·exact absurd hh hn
    ·rcases hh with hh|hh
     ·rcases aw.1 hh with e2|e2
      ·exact⟨x,ex,.inr ((i2 _).2 (.inl e2))⟩
      ·exact⟨x,ex,.inl e2⟩
     ·exact⟨x,ex,.inr ((i2 _).2 (.inr hh))⟩
def ins(l:List Int)(n:Int):List Int:=(l.filter fun x=>decide (x.natAbs≤n.natAbs))++n::l.filter fun x=>decide (n.natAbs<x.natAbs)
def dk(l:List Int):List Int:=l.foldl ins []
def LY(l:List Int):Prop:=l.Pairwise fun a b=>a.natAbs≤b.natAbs
theorem KX{l:List Int}{n:Int}(h:LY l):LY (ins l n):=by
 unfold ins LY
 refine List.pairwise_append.2 ⟨h.filter _,bF.2 ⟨fun y hy=>?_,h.filter _⟩,fun a ha b hb=>?_⟩
 ·have:=(cM.1 hy).2
  simp only[decide_eq_true_eq] at this
  omega
 ·have h1:=(cM.1 ha).2
  simp only[decide_eq_true_eq] at h1
  rcases aw.1 hb with e|e
  ·rw[e];exact h1
  ·have h2:=(cM.1 e).2
   simp only[decide_eq_true_eq] at h2
   omega
theorem KK{l:List Int}{n x:Int}:x∈ins l n↔x=n∨x∈l:=by
 unfold ins
 rw[aG,aw,cM,cM]
 simp only[decide_eq_true_eq]
 constructor
 ·rintro(h|h|h)
  ·exact .inr h.1
  ·exact .inl h
  ·exact .inr h.1
 ·rintro(h|h)
  ·exact .inr (.inl h)
  ·rcases cI n.natAbs x.natAbs with q|q
   ·exact .inr (.inr ⟨h,q⟩)
   ·exact .inl ⟨h,q⟩
theorem wP:∀{l acc:List Int},LY acc→LY (l.foldl ins acc)∧∀x,x∈l.foldl ins acc↔x∈l∨x∈acc
 | [],acc,h=>⟨h,by simp⟩
 | n::l,acc,h=>by
   obtain⟨h1,h2⟩:=wP (l:=l) (KX (n:=n) h)
   refine⟨h1,fun x=>?_⟩
   rw[iY,h2,KK,aw]
   constructor
   ·rintro(h|h|h)
    ·exact .inl (.inr h)
    ·exact .inl (.inl h)
    ·exact .inr h
   ·rintro((h|h)|h)
    ·exact .inr (.inl h)
    ·exact .inl h
    ·exact .inr (.inr h)
theorem pN(l:List Int):LY (dk l):=(wP (l:=l) (acc:=[]) List.Pairwise.nil).1
theorem lL(l:List Int)(x:Int):x∈dk l↔x∈l:=by
 have:=(wP (l:=l) (acc:=[]) List.Pairwise.nil).2 x
 rw[dk,this];simp
def compact:List Int→List Int
 | []=>[]
 | [x]=>[x]
 | x::y::l=>if x=y then compact (y::l) else x::compact (y::l)
theorem mP:∀(l:List Int)(x:Int),x∈compact l↔x∈l
 | [],_=>by simp[compact]
 | [a],_=>by simp[compact]
 | a::b::l,x=>by
   have ih:=mP (b::l) x
   unfold compact
   split
   ·rename_i e
    rw[ih,e];simp
   ·rw[aw,ih,aw (a:=x) (b:=a)]
theorem pg:∀{l:List Int},LY l→(∀x∈l,∀y∈l,x.natAbs=y.natAbs→x=y)→F6 (compact l)
 | [],_,_=>List.Pairwise.nil
 | [a],_,_=>jv _ _
 | a::b::l,hs,hu=>by
   obtain⟨h1,h2⟩:=bF.1 hs
   have ih:=pg (l:=b::l) h2 (fun x hx y hy=>hu x (bI _ hx) y (bI _ hy))
   unfold compact
   split
   ·exact ih
   ·rename_i e
    refine bF.2 ⟨fun y hy=>?_,ih⟩
    rw[mP] at hy
    have hle:=h1 y hy
    rcases cI a.natAbs y.natAbs with q|q
    ·exact q
    ·have e1:=hu a (by simp) y (bI _ hy) (by omega)
     have hb:=h1 b (by simp)
     have hyb:b.natAbs≤y.natAbs:=by
      rcases aw.1 hy with e2|e2
      ·rw[e2];exact Nat.le_refl _
      ·exact(bF.1 h2).1 y e2
     have:=hu a (by simp) b (by simp) (by omega)
     exact absurd this e
theorem yT{l:List Int}(h0:∀x∈l,x≠0)(hf:Fair l):kW [] l=some (compact (dk l)):=by
 obtain⟨o,e,i1,i2⟩:=uP (ns:=l) (out:=[]) List.Pairwise.nil (fun x hx=>⟨hf x hx,by simp⟩)
 rw[e]
 congr 1
 refine FD i1 (pg (pN l) fun x hx y hy hxy=>?_) fun x=>?_
 ·rw[lL] at hx hy
  rcases fS.1 hxy with e|e
  ·exact e
  ·exact absurd (by rw[e] at hx;exact hx) (hf y hy)
 ·rw[i2,mP,lL];simp
def im(put:List Int):Prop:=put.Pairwise (fun a b=>a.natAbs≠b.natAbs)∧∀x∈put,x≠0∧x.natAbs≤60
theorem ll{put:List Int}(h:im put):put.length≤60:=by
 have h1:=AX 60 (put.map fun m=>m.natAbs-1) (by
  rw[mS]
  refine List.Pairwise.imp_of_mem ?_ h.1
  intro a b ha hb hab e
  have:=h.2 a ha
  have:=h.2 b hb
  exact hab (by omega)) (fun x hx=>by
  obtain⟨m,hm,rfl⟩:=bQ.1 hx
  have:=h.2 m hm
  omega)
 rwa [bl] at h1
theorem su{put:List Int}{l:Int}(h:im put)(h0:l≠0)(h1:l.natAbs≤60)(h2:l∉put)(h3:-l∉put):im (put++[l]):=by
 refine⟨List.pairwise_append.2 ⟨h.1,jv _ _,fun a ha b hb=>?_⟩,fun x hx=>?_⟩
 ·rw[bX.1 hb]
  intro e
  rcases fS.1 e with e|e
  ·exact h2 (by rw[←e];exact ha)
  ·exact h3 (by rw[←e];exact ha)
 ·rcases aG.1 hx with hx|hx
  ·exact h.2 x hx
  ·rw[bX.1 hx];exact⟨h0,h1⟩
theorem I5{put:List Int}(h:im put):Fair put:=by
 intro x hx hn
 have h0:=h.2 x hx
 have key:∀{l:List Int},l.Pairwise (fun a b=>a.natAbs≠b.natAbs)→x∈l → -x∈l→x≠0→False:=by
  intro l
  induction l with
  | nil=>intro _ h _ _;simp at h
  | cons a l ih=>
    intro hp h1 h2 h3
    obtain⟨p1,p2⟩:=bF.1 hp
    rcases aw.1 h1 with e|e
    ·rcases aw.1 h2 with e2|e2
     ·omega
     ·exact p1 _ e2 (by rw[←e];simp)
    ·rcases aw.1 h2 with e2|e2
     ·exact p1 _ e (by rw[←e2];simp)
     ·exact ih p2 e e2 h3
 exact key h.1 hx hn h0.1
theorem JV{put c:List Int}(h:(unit put c).1≠0):(unit put c).2=false∧(unit put c).1∈c∧(unit put c).1∉put ∧ -(unit put c).1∉put:=by
 unfold unit at h⊢
 split at h
 ·exact absurd rfl h
 ·rename_i ha
  rw[if_neg ha]
  split at h
  ·exact absurd rfl h
  ·rename_i l hl
   have hm:l∈c.filter (fun l=>!put.contains (-l)):=by rw[hl];simp
   obtain⟨m1,m2⟩:=cM.1 hm
   refine⟨rfl,m1,fun hh=>ha (List.any_eq_true.2 ⟨l,m1,bq.2 hh⟩),fun hh=>?_⟩
   simp at m2
   exact m2 hh
  ·exact absurd rfl h
theorem xg{put:List Int}:∀{list:List (List Int)},(scan put list).1≠0→∃c∈list,(scan put list).1∈c∧(scan put list).1∉put ∧ -(scan put list).1∉put
 | [],h=>absurd rfl h
 | c::cs,h=>by
   rcases aa ((unit put c).2=true) with h1|h1
   ·simp only[scan,h1,if_true] at h;exact absurd rfl h
   ·rcases aa ((unit put c).1=0) with h2|h2
    ·simp only[scan,h1,h2,if_true,if_false] at h⊢
     obtain⟨d,hd,hh⟩:=xg h
     exact⟨d,bI _ hd,hh⟩
    ·simp only[scan,h1,h2,if_false]
     obtain⟨_,q⟩:=JV h2
     exact⟨c,by simp,q⟩
theorem qO{list:List (List Int)}{put:List Int}(h:put.length≤60):eX list put=if(scan put list).2 then(put,true) else if(scan put list).1=0 then(put,false) else eX list (put++[(scan put list).1]):=by
 have e:61-put.length=(61-(put++[(scan put list).1]).length)+1:=by simp;omega
 unfold eX
 rw[e,mQ]
theorem tM{put:List Int}{list:List (List Int)}{i:Nat}(h:i<list.length):scan put (list.drop i)=if(unit put list[i]).2 then(0,true) else if(unit put list[i]).1=0 then scan put (list.drop (i+1)) else((unit put list[i]).1,false):=by
 rw[af h,scan]
theorem wY{put:List Int}{list:List (List Int)}{i:Nat}(h:list.length≤i):scan put (list.drop i)=(0,false):=by
 rw[ag h,scan]
def DA(put:List Int):List Int→Int→Int→Int×Int
 | [],n,left=>(n,left)
 | l::ls,n,left=>if O5 put l=1 then(2,0) else if O5 put l=0 then DA put ls (n+1) (if n=0 then l else left) else DA put ls n left
def left(put c:List Int):Int×Int:=DA put c 0 0
theorem jc{l many:Int}:dF l many=true↔l≠0 ∧ -many≤l∧l≤many:=by
 simp only[dF,ae,decide_eq_true_eq,cF]
theorem Ba{put:List Int}{list:List (List Int)}(hp:im put)(hc:∀x∈list,∀l∈x,l≠0∧l.natAbs≤60)(h:(scan put list).1≠0):im (put++[(scan put list).1]):=by
 obtain⟨c,hc1,h1,h2,h3⟩:=xg h
 have:=hc c hc1 _ h1
 exact su hp this.1 this.2 h2 h3
theorem sS(atoms:List Atom)(t:Form)(c:dq):a7 atoms t c =
 if t.kind=1 then(c,if t.lit.no then -(bD atoms t.lit.atom+1) else bD atoms t.lit.atom+1) else
 if t.kind=2 then((dy atoms t.kids c).1,-((dy atoms t.kids c).2.getD 0 0)) else
 (iH t.kind ⟨(dy atoms t.kids c).1.many+1,(dy atoms t.kids c).1.list⟩ ((dy atoms t.kids c).1.many+1) ((dy atoms t.kids c).2.getD 0 0) ((dy atoms t.kids c).2.getD 1 0),(dy atoms t.kids c).1.many+1):=by
 cases t;rfl
theorem fj(c:dq)(l:List Int):(ck c l).many=c.many:=by unfold ck;split<;>rfl
theorem cR(c:dq)(l:List Int):(ck c l).list.length≤c.list.length+1:=by unfold ck;split<;>simp
theorem xR(c:dq)(v a b:Int):(Dq c v a b).many=c.many:=by simp only[Dq,fj]
theorem GX(c:dq)(v a b:Int):(yg c v a b).many=c.many:=by simp only[yg,fj]
theorem lS(k:Int)(c:dq)(v a b:Int):(iH k c v a b).many=c.many:=by
 unfold iH
 split
 ·exact xR _ _ _ _
 ·split
  ·exact xR _ _ _ _
  ·split
   ·exact xR _ _ _ _
   ·exact GX _ _ _ _
theorem A6(c:dq)(v a b:Int):(Dq c v a b).list.length≤c.list.length+4:=by
 unfold Dq
 have h1:=cR (ck (ck c [v,-a]) [v,-b]) [-v,a,b]
 have h2:=cR (ck c [v,-a]) [v,-b]
 have h3:=cR c [v,-a]
 omega
theorem Jf(c:dq)(v a b:Int):(yg c v a b).list.length≤c.list.length+4:=by
 unfold yg
 have h1:=cR (ck (ck (ck c [-v,-a,b]) [-v,a,-b]) [v,a,b]) [v,-a,-b]
 have h2:=cR (ck (ck c [-v,-a,b]) [-v,a,-b]) [v,a,b]
 have h3:=cR (ck c [-v,-a,b]) [-v,a,-b]
 have h4:=cR c [-v,-a,b]
 omega
theorem GO(k:Int)(c:dq)(v a b:Int):(iH k c v a b).list.length≤c.list.length+4:=by
 unfold iH
 split
 ·exact A6 _ _ _ _
 ·split
  ·exact A6 _ _ _ _
  ·split
   ·exact A6 _ _ _ _
   ·exact Jf _ _ _ _
mutual
theorem dj:∀(t:Form)(d:Nat)(atoms:List Atom)(c:dq),aL t d=true→c.many≤(a7 atoms t c).1.many∧(a7 atoms t c).1.many≤c.many+bL t d∧(a7 atoms t c).1.list.length≤c.list.length+4*bL t d
 | .mk k l ks,0,_,_,h=>by simp[aL] at h
 | .mk k l ks,d+1,atoms,c,h=>by
   simp only[aL,ae] at h
   have ih:=pz ks d atoms c h.2
   simp only[a7,bL]
   split
   ·simp only;omega
   ·split
    ·simp only;omega
    ·simp only[lS]
     have:=GO k ⟨(dy atoms ks c).1.many+1,(dy atoms ks c).1.list⟩ ((dy atoms ks c).1.many+1) ((dy atoms ks c).2.getD 0 0) ((dy atoms ks c).2.getD 1 0)
     simp only at this
     omega
theorem pz:∀(ts:List Form)(d:Nat)(atoms:List Atom)(c:dq),bc ts d=true→c.many≤(dy atoms ts c).1.many∧(dy atoms ts c).1.many≤c.many+bn ts d∧(dy atoms ts c).1.list.length≤c.list.length+4*bn ts d
 | [],_,_,c,_=>by simp[dy,bn]
 | t::ts,d,atoms,c,h=>by
   simp only[bc,ae] at h
   have h1:=dj t d atoms c h.1
   have h2:=pz ts d atoms (a7 atoms t c).1 h.2
   simp only[dy,bn]
   omega
end
theorem Eo(atoms:List Atom)(t:Form)(c:dq):dy atoms [t] c=((a7 atoms t c).1,[(a7 atoms t c).2]):=rfl
theorem eg:∀(t:Form)(d:Nat)(atoms:List Atom)(c:dq),aL t d=true→inside atoms t→(atoms.length:Int)≤c.many→0≤c.many→(a7 atoms t c).2≠0 ∧ -(a7 atoms t c).1.many≤(a7 atoms t c).2∧(a7 atoms t c).2≤(a7 atoms t c).1.many:=by
 refine Form.ind fun k l ks ih d atoms c h nH hc h0=>?_
 cases d with
 | zero=>simp[aL] at h
 | succ d=>
 have hg:=dj (.mk k l ks) (d+1) atoms c h
 have hk:=cz h
 rw[sS] at hg⊢
 rcases aa ((Form.mk k l ks).kind=1) with h1|h1
 ·rw[if_pos h1] at hg⊢
  have hm:=rn nH h1
  have h2:=ib.2 hm
  have h3:=xe hm
  simp only
  split<;>omega
 ·rw[if_neg h1] at hg⊢
  rcases aa ((Form.mk k l ks).kind=2) with h2|h2
  ·rw[if_pos h2] at hg⊢
   have cZ:(Form.mk k l ks).kids.length=1:=by
    have:=hk.1
    simp only[dM,ae,decide_eq_true_eq] at this
    have e:=this.1
    rw[h2] at e
    have e2:cC 2=1:=rfl
    omega
   obtain⟨u,hu⟩:=cj.1 cZ
   have hum:u∈(Form.mk k l ks).kids:=by rw[hu];simp
   have hku:=ih u hum d atoms c (bx hk.2.2 u hum) (dA nH h1 u hum) hc h0
   rw[hu,Eo]
   simp only[List.getD_cons_zero]
   omega
  ·rw[if_neg h2] at hg⊢
   have hgs:=pz (Form.mk k l ks).kids d atoms c hk.2.2
   simp only[lS]
   omega
theorem Ct:∀{l:List Int}{n:Int}{o:List Int},rz l n=some o→o.length≤l.length+1∧∀x∈o,x=n∨x∈l
 | [],n,o,h=>by
   simp only[rz,Option.some.injEq] at h
   rw[←h];simp
 | a::l,n,o,h=>by
   rcases fN a.natAbs n.natAbs with h1|h1|h1
   ·rw[rz,if_pos h1] at h
    cases hp:rz l n with
    | none=>rw[hp] at h;cases h
    | some o'=>
      rw[hp] at h
      simp only[db,Option.some.injEq] at h
      obtain⟨i1,i2⟩:=Ct hp
      rw[←h]
      refine⟨by simp only[aq];omega,fun x hx=>?_⟩
      rcases aw.1 hx with e|e
      ·exact .inr (by rw[e];simp)
      ·rcases i2 x e with e2|e2
       ·exact .inl e2
       ·exact .inr (bI _ e2)
   ·rw[rz,if_neg (by omega),if_pos h1] at h
    split at h
    ·simp only[Option.some.injEq] at h
     rw[←h]
     exact⟨by omega,fun x hx=>.inr hx⟩
    ·cases h
   ·rw[rz,if_neg (by omega),if_neg (by omega)] at h
    simp only[Option.some.injEq] at h
    rw[←h]
    exact⟨by simp,fun x hx=>aw.1 hx⟩
theorem yn:∀{ns out o:List Int},kW out ns=some o→o.length≤out.length+ns.length∧∀x∈o,x∈ns∨x∈out
 | [],out,o,h=>by
   simp only[kW,Option.some.injEq] at h
   rw[←h];simp
 | n::ns,out,o,h=>by
   simp only[kW] at h
   split at h
   ·cases h
   ·rename_i o' hp
    obtain⟨i1,i2⟩:=Ct hp
    obtain⟨j1,j2⟩:=yn h
    refine⟨by simp only[aq];omega,fun x hx=>?_⟩
    rcases j2 x hx with e|e
    ·exact .inl (bI _ e)
    ·rcases i2 x e with e2|e2
     ·exact .inl (by rw[e2];simp)
     ·exact .inr e2
theorem AF{l o:List Int}(h:dJ l=some o):o.length≤l.length∧∀x∈o,x∈l:=by
 unfold dJ at h
 split at h
 ·obtain⟨i1,i2⟩:=yn h
  refine⟨by simpa using i1,fun x hx=>?_⟩
  rcases i2 x hx with e|e
  ·exact e
  ·simp at e
 ·cases h
theorem A8{l:List Int}(h:(l.all fun x=>dF x 60)=false):dJ l=none:=by
 unfold dJ;rw[h];rfl
theorem zp{l:List Int}(h:(l.all fun x=>dF x 60)=true):dJ l=kW [] l:=by
 unfold dJ;rw[h];rfl
theorem II{l:List Int}(h:(l.all fun x=>dF x 60)=true):∀x∈l,x≠0∧x.natAbs≤60:=by
 intro x hx
 have:=jc.1 (bz.1 h x hx)
 omega
def uu(l:List Int):Bool:=l.all fun x=>dF x 60&& !l.contains (-x)
theorem l8(l:List Int):dJ l=if uu l then some (compact (dk l)) else none:=by
 rcases aa ((l.all fun x=>dF x 60)=true) with h1|h1
 ·have h0:=II h1
  rw[zp h1]
  rcases aa (uu l=true) with h2|h2
  ·rw[if_pos h2]
   refine yT (fun x hx=>(h0 x hx).1) fun x hx hn=>?_
   have:=bz.1 h2 x hx
   simp at this
   exact this.2 hn
  ·rw[if_neg h2]
   refine vb List.Pairwise.nil (fun x hx=>(h0 x hx).1) ?_
   have h3:∃x∈l,¬ (dF x 60&& !l.contains (-x))=true:=by
    refine mv fun hh=>h2 (bz.2 fun x hx=>?_)
    exact mv fun h4=>hh ⟨x,hx,h4⟩
   obtain⟨x,hx,hh⟩:=h3
   have hm:=bz.1 h1 x hx
   rw[hm,Bool.true_and] at hh
   cases hc:l.contains (-x)
   ·rw[hc] at hh;exact absurd rfl hh
   ·exact⟨x,hx,.inl (bq.1 hc)⟩
 ·have h2:(l.all fun x=>dF x 60)=false:=by simpa using h1
  rw[A8 h2]
  have h3:¬uu l=true:=fun hh=>h1 (bz.2 fun x hx=>by
   have:=bz.1 hh x hx
   simp only[ae] at this
   exact this.1)
  rw[if_neg h3]
def lb(c:List Int)(i:Nat):Option Int:=if i=0 then none else c[i-1]?
theorem rj{c:List Int}{i:Nat}(h:i<c.length):lb c (i+1)=some c[i]:=by simp[lb,h]
theorem ze{many:Int}{c:List Int}{i:Nat}(h:i<c.length)(h0:i=0):gq many (lb c i) (c.drop i)=(dF c[i] many&&gq many (lb c (i+1)) (c.drop (i+1))):=by
 rw[af h,rj h]
 subst h0
 simp[lb,gq]
theorem yY{many:Int}{c:List Int}{i:Nat}(h:i<c.length)(h0:i≠0)(h1:i-1<c.length):gq many (lb c i) (c.drop i)=(dF c[i] many&&(decide (c[i-1].natAbs<c[i].natAbs)&&gq many (lb c (i+1)) (c.drop (i+1)))):=by
 have e:lb c i=some c[i-1]:=by simp[lb,h0,h1]
 rw[af h,rj h,e]
 simp only[gq]
def qg(put:List Int):List Int→Int→Int→Int×Bool
 | [],f,n=>(if 1<n then 0 else f,decide (n=0))
 | l::ls,f,n=>if put.contains l then(0,false) else if put.contains (-l) then qg put ls f n else qg put ls l (n+1)
theorem wO(put:List Int):∀(c:List Int)(f n:Int),0≤n→qg put c f n=if c.any put.contains then(0,false) else
 (if 1<n+(c.filter fun l=>!put.contains (-l)).length then 0 else(c.filter fun l=>!put.contains (-l)).getLastD f,decide (n+(c.filter fun l=>!put.contains (-l)).length=0))
 | [],f,n,h=>by simp[qg]
 | l::ls,f,n,h=>by
   rw[qg,List.any_cons,dg]
   cases h1:put.contains l
   ·cases h2:put.contains (-l)
    ·simp only[al,if_false,iQ,Bool.not_false,if_true]
     rw[wO put ls l (n+1) (by omega),aq,List.getLastD_cons]
     have e:n+1+((ls.filter fun l=>!put.contains (-l)).length:Int)=n+(((ls.filter fun l=>!put.contains (-l)).length+1:Nat):Int):=by omega
     rw[e]
    ·simp only[al,if_false,iQ,Bool.not_true,if_true]
     exact wO put ls f n h
   ·simp
theorem D4(put c:List Int):unit put c=qg put c 0 0:=by
 rw[wO put c 0 0 (by omega),unit]
 split
 ·rfl
 ·split
  ·rename_i h;rw[h];rfl
  ·rename_i l h;rw[h];rfl
  ·rename_i h1 h2
   cases hf:c.filter fun l=>!put.contains (-l) with
   | nil=>exact absurd hf h1
   | cons a t=>
     cases t with
     | nil=>exact absurd hf (h2 a)
     | cons b t=>
       have e:(1:Int)<0+((a::b::t).length:Int):=by simp only[aq];omega
       have e2:¬ (0+((a::b::t).length:Int)=0):=by simp only[aq];omega
       rw[if_pos e,decide_eq_false e2]
theorem kl{k:Int}{l:fB}{ks:List Form}(h:dM k l ks=true):(k=1∧ks.length=0)∨(k=2∧ks.length=1)∨((k=3∨k=4∨k=5∨k=6)∧ks.length=2):=by
 simp only[dM,ae,decide_eq_true_eq] at h
 have h1:=h.1
 unfold cC at h1
 split at h1<;>omega
theorem Ce{atoms:List Atom}{ks:List Form}{c:dq}(h:ks.length=1):dy atoms ks c=((a7 atoms ks[0] c).1,[(a7 atoms ks[0] c).2]):=by
 match ks,h with
 | [u],_=>rfl
theorem CS{atoms:List Atom}{ks:List Form}{c:dq}(h:ks.length=2):dy atoms ks c=((a7 atoms ks[1] (a7 atoms ks[0] c).1).1,[(a7 atoms ks[0] c).2,(a7 atoms ks[1] (a7 atoms ks[0] c).1).2]):=by
 match ks,h with
 | [u,v],_=>rfl
theorem pQ{atoms:List Atom}{t:Form}{c:dq}(h:t.kind=1):a7 atoms t c=(c,if t.lit.no then -(bD atoms t.lit.atom+1) else bD atoms t.lit.atom+1):=by
 rw[sS,if_pos h]
theorem pR{atoms:List Atom}{t:Form}{c:dq}(h:t.kind=2)(hl:t.kids.length=1):a7 atoms t c=((a7 atoms t.kids[0] c).1,-(a7 atoms t.kids[0] c).2):=by
 rw[sS,if_neg (by omega),if_pos h,Ce hl]
 rfl
def two(atoms:List Atom)(u v:Form)(c:dq):dq:=(a7 atoms v (a7 atoms u c).1).1
theorem pJ{atoms:List Atom}{t:Form}{c:dq}(h1:t.kind≠1)(h2:t.kind≠2)(hl:t.kids.length=2):a7 atoms t c =
 (iH t.kind ⟨(a7 atoms t.kids[1] (a7 atoms t.kids[0] c).1).1.many+1,(a7 atoms t.kids[1] (a7 atoms t.kids[0] c).1).1.list⟩ ((a7 atoms t.kids[1] (a7 atoms t.kids[0] c).1).1.many+1) (a7 atoms t.kids[0] c).2 (a7 atoms t.kids[1] (a7 atoms t.kids[0] c).1).2,(a7 atoms t.kids[1] (a7 atoms t.kids[0] c).1).1.many+1):=by
 rw[sS,if_neg h1,if_neg h2,CS hl]
 rfl
theorem jH{list:List Form}{f:Form}(h:f∈list):inside (aH [] list) f:=fun u hu=>lV list [] f h u hu
theorem Dx{atoms:List Atom}{list:List Form}{c:dq}{i:Nat}(h:i<list.length):gm atoms (list.drop i) c=gm atoms (list.drop (i+1)) (ck (a7 atoms list[i] c).1 [(a7 atoms list[i] c).2]):=by
 rw[af h];rfl
theorem CE{list:List rY}{c:dq}{i:Nat}(h:i<list.length):nQ c (list.drop i)=nQ (ck c (list[i].marks.map fun m=>-m)) (list.drop (i+1)):=by
 rw[af h];rfl
theorem wX{list:List Form}(h:bS list=none):hU list=I2:=by unfold hU;rw[h]
theorem kb{list:List Form}{atoms:List Atom}(h:bS list=some atoms):hU list=gm atoms list ⟨atoms.length,[]⟩:=by unfold hU;rw[h]
theorem dB{list:List Form}{atoms:List Atom}(h:bS list=some atoms):list.length≤5∧(∀f∈list,dI f=true)∧atoms.length≤6∧atoms=aH [] list:=by
 have e:=iG list
 rcases aa (list.length≤5∧list.all dI=true∧(aH [] list).length≤6) with hc|hc
 ·rw[if_pos hc,h] at e
  have e2:=Option.some.inj e
  exact⟨hc.1,bz.1 hc.2.1,by rw[e2];exact hc.2.2,e2⟩
 ·rw[if_neg hc,h] at e
  cases e
theorem GL{list:List Form}{atoms:List Atom}(h:bS list=some atoms){i:Nat}(hi:i<list.length){c:dq}(h1:(atoms.length:Int)≤c.many)(h2:c.many≤6+31*i)(h3:c.list.length≤125*i) :
 (a7 atoms list[i] c).2≠0 ∧ -1000≤(a7 atoms list[i] c).2∧(a7 atoms list[i] c).2≤1000∧aL list[i] 5=true∧inside atoms list[i]∧(a7 atoms list[i] c).1.list.length≤125*i+124 ∧
 (atoms.length:Int)≤(ck (a7 atoms list[i] c).1 [(a7 atoms list[i] c).2]).many∧(ck (a7 atoms list[i] c).1 [(a7 atoms list[i] c).2]).many≤6+31*((i+1:Nat):Int)∧(ck (a7 atoms list[i] c).1 [(a7 atoms list[i] c).2]).list.length≤125*(i+1):=by
 obtain⟨p1,p2,p3,p4⟩:=dB h
 have hs:=fJ (p2 list[i] (ah hi))
 have nH:inside atoms list[i]:=by rw[p4];exact jH (ah hi)
 have g:=dj list[i] 5 atoms c hs.1
 have m:=gA list[i] 5 hs.1
 have q:=eg list[i] 5 atoms c hs.1 nH h1 (by omega)
 have a:=cR (a7 atoms list[i] c).1 [(a7 atoms list[i] c).2]
 rw[fj]
 refine⟨q.1,by omega,by omega,hs.1,nH,by omega,by omega,by omega,by omega⟩
theorem uY:∀(fs:List Form)(atoms:List Atom)(c:dq),(∀f∈fs,dI f=true)→(gm atoms fs c).list.length≤c.list.length+125*fs.length
 | [],_,_,_=>by simp[gm]
 | f::fs,atoms,c,h=>by
   have hs:=fJ (h f (by simp))
   have g:=dj f 5 atoms c hs.1
   have m:=gA f 5 hs.1
   have a:=cR (a7 atoms f c).1 [(a7 atoms f c).2]
   have ih:=uY fs atoms (ck (a7 atoms f c).1 [(a7 atoms f c).2]) fun x hx=>h x (by simp[hx])
   simp only[gm,aq]
   omega
theorem Gd(list:List Form):(hU list).list.length≤625:=by
 cases h:bS list with
 | none=>rw[wX h];simp[I2]
 | some atoms=>
   obtain⟨p1,p2,p3,p4⟩:=dB h
   have:=uY list atoms ⟨atoms.length,[]⟩ p2
   rw[kb h]
   simp only[List.length_nil] at this
   omega
theorem Ia{marks:List Int}{many:Nat}(h:ik marks many=true)(hm1:many≤6):marks.length≤12:=by
 have hmem:=ow h
 have hp:=(xY (many:=many) (before:=[]) h).1
 have h1:=AX 12 (marks.map fun m=>if m<0 then(m+6).toNat else(m+5).toNat) (by
  rw[mS]
  refine List.Pairwise.imp_of_mem ?_ hp
  intro a b ha hb hab e
  have:=hmem a ha
  have:=hmem b hb
  split at e<;>split at e<;>exact hab (by omega)) (fun x hx=>by
  obtain⟨m,hm,rfl⟩:=bQ.1 hx
  have:=hmem m hm
  split<;>omega)
 rwa [bl] at h1
def vj(a b:Int):Int:=if a<b then -1 else if b<a then 1 else 0
theorem Dd{a b:Int}:vj a b<0↔a<b:=by
 unfold vj
 split
 ·simp[*]
 ·split<;>simp[*]
def sk(p:List Int)(x:Int)(r:List Int)(j:Nat):List Int:=p.take j++x::(p.drop j++r)
theorem KW(l:List Int)(n:Int):(ins l n).length=l.length+1:=by
 unfold ins
 rw[ao,aq]
 have h:∀l:List Int,(l.filter fun x=>decide (x.natAbs≤n.natAbs)).length+(l.filter fun x=>decide (n.natAbs<x.natAbs)).length=l.length:=by
  intro l
  induction l with
  | nil=>rfl
  | cons a l ih=>
    simp only[dg]
    rcases cI n.natAbs a.natAbs with h|h
    ·have h2:¬a.natAbs≤n.natAbs:=by omega
     simp only[h,h2,decide_true,decide_false,if_true,al,if_false,aq]
     omega
    ·have h2:¬n.natAbs<a.natAbs:=by omega
     simp only[h,h2,decide_true,decide_false,if_true,al,if_false,aq]
     omega
 have:=h l
 omega
theorem xI(l:List Int)(x:Int):dk (l++[x])=ins (dk l) x:=by unfold dk;rw[List.foldl_append];rfl
theorem Ac:∀(l:List Int),(dk l).length=l.length:=by
 intro l
 have key:∀(l acc:List Int),(l.foldl ins acc).length=acc.length+l.length:=by
  intro l
  induction l with
  | nil=>intro acc;rfl
  | cons a l ih=>intro acc;rw[iY,ih,KW,aq];omega
 have:=key l []
 simpa[dk] using this
theorem MR{p:List Int}{x:Int}{j:Nat}(h1:∀y∈p.take j,y.natAbs≤x.natAbs)(h2:∀y∈p.drop j,x.natAbs<y.natAbs):ins p x=p.take j++x::p.drop j:=by
 have e1:(p.filter fun y=>decide (y.natAbs≤x.natAbs))=p.take j:=by
  conv=>lhs;rw[←hP j p]
  rw[fx,lj.2 fun y hy=>decide_eq_true (h1 y hy),List.filter_eq_nil_iff.2 fun y hy=>by have:=h2 y hy;simp;omega,List.append_nil]
 have e2:(p.filter fun y=>decide (x.natAbs<y.natAbs))=p.drop j:=by
  conv=>lhs;rw[←hP j p]
  rw[fx,List.filter_eq_nil_iff.2 fun y hy=>by have:=h1 y hy;simp;omega,lj.2 fun y hy=>decide_eq_true (h2 y hy),bB]
 unfold ins
 rw[e1,e2]
theorem M8{p:List Int}(x:Int)(r:List Int){j:Nat}(h:p.length≤j):sk p x r j=p++x::r:=by
 unfold sk;rw[an h,ag h,bB]
theorem ME{p:List Int}(x:Int)(r:List Int){j:Nat}(h:j≤p.length):(sk p x r j).length=p.length+1+r.length:=by
 unfold sk
 simp only[ao,aq,aO,List.length_drop]
 omega
theorem Ot{p:List Int}(x:Int)(r:List Int){j:Nat}(h:j≤p.length)(hs:j<(sk p x r j).length):(sk p x r j)[j]=x:=by
 have e:(sk p x r j)[j]?=some x:=by
  unfold sk
  rw[List.getElem?_append_right (by rw[aO];omega)]
  have e:j-(p.take j).length=0:=by rw[aO];omega
  rw[e];rfl
 rw[ab hs] at e
 exact Option.some.inj e
theorem Gp{p:List Int}(x:Int)(r:List Int){j:Nat}(h:j≤p.length)(h0:0<j)(hp:j-1<p.length)(hs:j-1<(sk p x r j).length):(sk p x r j)[j-1]=p[j-1]:=by
 have e:(sk p x r j)[j-1]?=some p[j-1]:=by
  unfold sk
  rw[aZ (by rw[aO];omega),List.getElem?_take_of_lt (by omega),ab hp]
 rw[ab hs] at e
 exact Option.some.inj e
theorem Kh{p:List Int}(x:Int)(r:List Int){k:Nat}(hp:k<p.length):((sk p x r (k+1)).set (k+1) p[k]).set k x=sk p x r k:=by
 have e1:p.take (k+1)=p.take k++[p[k]]:=by rw[List.take_add_one,ab hp];rfl
 have hk:(p.take k).length=k:=by rw[aO];omega
 have e2:k+1-k=1:=by omega
 unfold sk
 rw[e1,List.append_assoc,hQ _ _ (by omega),hk,hQ _ _ (by omega),hk,af hp,Nat.sub_self,e2]
 rfl
theorem H5{p:List Int}{x:Int}{r:List Int}{j:Nat}(hs:LY p)(hd:∀y∈p.drop j,x.natAbs<y.natAbs)(hj:∀hj0:j-1<p.length,0<j→(p[j-1]).natAbs≤x.natAbs)(hji:j≤p.length):sk p x r j=ins p x++r:=by
 rw[MR (j:=j) (fun y hy=>?_) hd]
 ·unfold sk;simp
 ·obtain⟨k,hk,rfl⟩:=List.mem_iff_getElem.1 hy
  rw[aO] at hk
  rw[List.getElem_take]
  have h1:=hj (by omega) (by omega)
  rcases cI k (j-1) with h2|h2
  ·have:=(List.pairwise_iff_getElem.1 hs) k (j-1) (by omega) (by omega) h2
   omega
  ·have e2:k=j-1:=by omega
   subst e2
   exact h1
theorem xr{d e:Array Int}:∀m,(∀j,j<m→d[j]! = e[j]!)→Lib.compactUpTo d m=Lib.compactUpTo e m
 | 0,_=>rfl
 | m+1,h=>by
   rw[Lib.compactUpTo_succ,Lib.compactUpTo_succ,xr m (fun j hj=>h j (by omega)),h m (by omega)]
   have e1:Lib.keeps d m=Lib.keeps e m:=by
    unfold Lib.keeps
    rw[h m (by omega),h (m-1) (by omega)]
   rw[e1]
theorem rC:∀(zs:List Int)(x:Int),compact (zs++[x])=if zs.getLast?=some x then compact zs else compact zs++[x]
 | [],x=>by simp[compact]
 | [a],x=>by
   rcases aa (a=x) with h|h
   ·simp[compact,h]
   ·simp[compact,h]
 | a::b::l,x=>by
   have ih:=rC (b::l) x
   rw[List.getLast?_cons_cons]
   simp only[List.cons_append,compact] at ih⊢
   rcases aa (a=b) with h|h
   ·rw[if_pos h,if_pos h,ih]
   ·rw[if_neg h,if_neg h,ih]
    split<;>rfl
theorem uv:∀(n:Nat)(zs:List Int),zs.length=n→Lib.compact zs=compact zs
 | 0,zs,h=>by rw[cd.1 h];rfl
 | n+1,zs,h=>by
   rcases List.eq_nil_or_concat zs with e|⟨ys,x,e⟩
   ·rw[e] at h;cases h
   ·rw[List.concat_eq_append] at e
    subst e
    have hl:ys.length=n:=by simpa using h
    have ih:=uv n ys hl
    have e1:Lib.compact (ys++[x])=Lib.compactUpTo (ys++[x]).toArray (ys.length+1):=by unfold Lib.compact;rw[ao];rfl
    have e2:Lib.compactUpTo (ys++[x]).toArray ys.length=compact ys:=by
     rw[←ih]
     refine xr _ fun j hj=>?_
     simp[hj,List.getElem_append_left,Nat.lt_succ_of_lt hj]
    have e3:(ys++[x]).toArray[ys.length]! = x:=by simp
    rw[e1,Lib.compactUpTo_succ,e2,e3,rC]
    have e4:Lib.keeps (ys++[x]).toArray ys.length=decide (ys.getLast?≠some x):=by
     unfold Lib.keeps
     rw[e3,List.getLast?_eq_getElem?]
     rcases Nat.eq_zero_or_pos ys.length with h0|h0
     ·have:ys=[]:=cd.1 h0
      subst this;simp
     ·have h1:ys.length-1<ys.length:=by omega
      have e5:(ys++[x]).toArray[ys.length-1]! = ys[ys.length-1]:=by
       have e6:(ys++[x])[ys.length-1]?=some ys[ys.length-1]:=by rw[aZ h1,ab h1]
       rw[List.getElem!_toArray,getElem!_def,e6]
      rw[e5,ab h1]
      refine decide_eq_decide.2 ⟨fun hh he=>?_,fun hh=>.inr fun he=>hh (by rw[he])⟩
      rcases hh with hh|hh
      ·omega
      ·exact hh (Option.some.inj he).symm
    rw[e4]
    rcases aa (ys.getLast?=some x) with h1|h1
    ·simp[h1]
    ·simp[h1]
mutual
def cy:Form→List Form
 | .mk k l ks=>if k=1 then [] else if k=2 then eR ks else eR ks++[.mk k l ks]
def eR:List Form→List Form
 | []=>[]
 | t::ts=>cy t++eR ts
end
theorem tj(t:Form):cy t=if t.kind=1 then [] else if t.kind=2 then eR t.kids else eR t.kids++[t]:=by cases t;rfl
theorem xw{t:Form}(h:t.kind=1):cy t=[]:=by rw[tj,if_pos h]
theorem yL{t:Form}(h:t.kind=2)(hl:t.kids.length=1):cy t=cy t.kids[0]:=by
 rw[tj,if_neg (by omega),if_pos h]
 obtain⟨u,hu⟩:=cj.1 hl
 simp[hu,eR]
theorem wI{t:Form}(h1:t.kind≠1)(h2:t.kind≠2)(hl:t.kids.length=2):cy t=cy t.kids[0]++cy t.kids[1]++[t]:=by
 rw[tj,if_neg h1,if_neg h2]
 have key:∀(ks:List Form)(hl:ks.length=2),eR ks=cy ks[0]++cy ks[1]:=by
  intro ks hl
  match ks,hl with
  | [u,v],_=>simp[eR]
 rw[key t.kids hl]
mutual
theorem nI:∀(t:Form)(d:Nat),aL t d=true→(cy t).length≤bL t d
 | .mk k l ks,0,h=>by simp[aL] at h
 | .mk k l ks,d+1,h=>by
   simp only[aL,ae] at h
   have ih:=uR ks d h.2
   simp only[cy,bL]
   split
   ·simp
   ·split
    ·omega
    ·rw[ao,List.length_singleton];omega
theorem uR:∀(ts:List Form)(d:Nat),bc ts d=true→(eR ts).length≤bn ts d
 | [],_,_=>by simp[eR,bn]
 | t::ts,d,h=>by
   simp only[bc,ae] at h
   have h1:=nI t d h.1
   have h2:=uR ts d h.2
   simp only[eR,bn,ao]
   omega
end
set_option maxRecDepth 100000
def Ma:Nat→Int→lH→lH
 | 0,_,s=>s
 | n+1,k,s=>if 0<k then Ma n (k.tdiv 10) (UInt8.ofNat (48+k.tmod 10).toNat::s) else s
def Ij(k:Int):lH:=if k≤0 then [109,48] else 109::Ma 20 k []
def vV{α:Type}(f:α→Int→α×Int):List α→Int→List α×Int
 | [],k=>([],k)
 | x::xs,k=>((f x k).1::(vV f xs (f x k).2).1,(vV f xs (f x k).2).2)
theorem Fz{α:Type}(f:α→Int→α×Int):∀(xs:List α)(k:Int),(vV f xs k).1.length=xs.length
 | [],_=>rfl
 | x::xs,k=>by simp[vV,Fz f xs]
def Mk{α:Type}(f:α→Int→α×Int)(ts:List α)(k:Int)(i:Nat)(zs:List α)(k':Int):Prop:=
 zs.length=ts.length∧i≤ts.length∧zs.drop i=ts.drop i∧vV f ts k=(zs.take i++(vV f (ts.drop i) k').1,(vV f (ts.drop i) k').2)
theorem Mk.zero{α:Type}(f:α→Int→α×Int)(ts:List α)(k:Int):Mk f ts k 0 ts k:=⟨rfl,cN _,rfl,by simp⟩
theorem Mk.len{α:Type}{f:α→Int→α×Int}{ts zs:List α}{k k':Int}{i:Nat}(h:Mk f ts k i zs k'):zs.length=ts.length:=h.1
theorem Mk.at{α:Type}{f:α→Int→α×Int}{ts zs:List α}{k k':Int}{i:Nat}(h:Mk f ts k i zs k')(hi:i<ts.length):zs[i]'(by rw[h.1];exact hi)=ts[i]:=by
 have h1:zs.drop i=ts.drop i:=h.2.2.1
 have e:(zs.drop i)[0]?=(ts.drop i)[0]?:=by rw[h1]
 rw[c9,c9,Nat.add_zero,ab hi,ab (by rw[h.1];exact hi)] at e
 exact Option.some.inj e
theorem Mk.all{α:Type}{f:α→Int→α×Int}{ts zs:List α}{k k':Int}{i:Nat}(h:Mk f ts k i zs k')(hi:ts.length≤i):vV f ts k=(zs,k'):=by
 obtain⟨h1,h2,h3,h4⟩:=h
 rw[h4,ag hi,an (by omega)]
 simp[vV]
def ON(n:Int)(k:Int):Int×Int:=(k,k+1)
mutual
def N0:Term→Int→Term×Int
 | .mk _ ks,k=>(.mk (Ij k) (I3 ks (k+1)).1,(I3 ks (k+1)).2)
def I3:List Term→Int→List Term×Int
 | [],k=>([],k)
 | t::ts,k=>((N0 t k).1::(I3 ts (N0 t k).2).1,(I3 ts (N0 t k).2).2)
end
def Ig(s:Sym)(k:Int):Sym×Int:=(⟨Ij k,(vV ON s.args (k+1)).1,(vV ON s.args (k+1)).2⟩,(vV ON s.args (k+1)).2+1)
def mkAtom(a:Atom)(k:Int):Atom×Int:=
 let A:=N0 a.A (k+1)
 let B:=N0 a.B A.2
 let N:=I3 a.aP B.2
 let I:=vV ON a.times N.2
 (⟨k,A.1,B.1,N.1,I.1,I.2,decide ((I.2+1).tmod 3=0)⟩,I.2+1+1)
def mkLit(l:fB)(k:Int):fB×Int:=(⟨(mkAtom l.atom k).1,decide ((mkAtom l.atom k).2.tmod 3=0)⟩,(mkAtom l.atom k).2+1)
mutual
def E2:Form→Int→Form×Int
 | .mk _ l ks,k=>(.mk k (mkLit l (k+1)).1 (pS ks (mkLit l (k+1)).2).1,(pS ks (mkLit l (k+1)).2).2)
def pS:List Form→Int→List Form×Int
 | [],k=>([],k)
 | t::ts,k=>((E2 t k).1::(pS ts (E2 t k).2).1,(pS ts (E2 t k).2).2)
end
def OO(s:Stack)(k:Int):Stack×Int:=(⟨⟨(vV Ig s.sig.syms k).1⟩,(vV pS s.levels (vV Ig s.sig.syms k).2).1⟩,(vV pS s.levels (vV Ig s.sig.syms k).2).2)
mutual
def OX:Term→Nat
 | .mk _ ks=>1+MX ks
def MX:List Term→Nat
 | []=>0
 | t::ts=>OX t+MX ts
end
def Pp(s:Sym):Nat:=s.args.length+2
def Ob(l:fB):Nat:=OX l.atom.A+OX l.atom.B+MX l.atom.aP+l.atom.times.length+4
mutual
def Mz:Form→Nat
 | .mk _ l ks=>1+Ob l+FJ ks
def FJ:List Form→Nat
 | []=>0
 | t::ts=>Mz t+FJ ts
end
def PC{α:Type}(c:α→Nat):List α→Nat
 | []=>0
 | x::xs=>c x+PC c xs
def Hd{α:Type}(f:α→Int→α×Int)(ts zs:List α)(k:Int)(i:Nat)(q:Int):Prop:=
 zs.length=ts.length∧i≤ts.length∧zs.drop i=(vV f (ts.drop i) q).1∧(vV f ts k).2=(vV f (ts.drop i) q).2
theorem Hd.zero{α:Type}(f:α→Int→α×Int)(ts:List α)(k:Int):Hd f ts (vV f ts k).1 k 0 k:=⟨Fz f ts k,cN _,by simp,by simp⟩
theorem Hd.at{α:Type}{f:α→Int→α×Int}{ts zs:List α}{k q:Int}{i:Nat}(h:Hd f ts zs k i q)(hi:i<ts.length):zs[i]'(by rw[h.1];exact hi)=(f ts[i] q).1:=by
 have h1:=h.2.2.1
 rw[af hi,af (by rw[h.1];exact hi)] at h1
 simp only[vV] at h1
 exact(List.cons.inj h1).1
theorem Hd.all{α:Type}{f:α→Int→α×Int}{ts zs:List α}{k q:Int}{i:Nat}(h:Hd f ts zs k i q)(hi:ts.length≤i):(vV f ts k).2=q:=by
 rw[h.2.2.2,ag hi]
 rfl
end Go.Mod
