/-
  What the functions of chapters 10 to 13 compute, in plain Lean: clauses, unit propagation, logs, clause form, papers. No program is walked here.
-/
import Derived.Test.YtgpjhjalfakpoaaGreatKAE
import Derived.Lib.SlicesCompact
set_option linter.unusedVariables false
set_option linter.unusedSimpArgs false
open Bool renaming and_eq_true→ae,false_eq_true→ak,false_or→iA
open Classical renaming em→aa,byContradiction→l7
open Int renaming natAbs_eq_natAbs_iff→fG
open List renaming getElem?_eq_getElem→ab,drop_eq_getElem_cons→af,drop_of_length_le→ag,getElem_mem→ai,length_append→an,take_of_length_le→ao,length_cons→aq,mem_cons→aw,mem_append→aE,length_take→aO,getElem?_append_left→aX,length_map→bj,contains_iff_mem→bo,nil_append→bx,pairwise_cons→bD,mem_cons_of_mem→bG,mem_map→bO,all_eq_true→bS,mem_singleton→bU,length_eq_zero_iff→cb,length_eq_one_iff→cg,mem_filter→cJ,getElem?_drop→cW,filter_cons→c7,filter_append→fb,take_append_drop→gQ,set_append_right→gR,foldl_cons→iJ,pairwise_singleton→jh,filter_eq_self→kQ,pairwise_map→my
open Nat renaming lt_or_ge→cF,zero_le→cK,lt_trichotomy→fA
open Option renaming map_some→cX
namespace Go.Mod
open Go.Eng
def fZ(many:Int):Option Int→List Int→Bool
 | _,[]=>true
 | p,l::ls=>dz l many&&((match p with|none=>true|some q=>decide (q.natAbs<l.natAbs))&&fZ many (some l) ls)
def gA(c:List Int)(many:Int):Bool:=within many 0 60&&fZ many none c
def mg(c:dh):Bool:=within c.many 0 60&&(decide (c.list.length≤400)&&c.list.all fun x=>gA x c.many)
def qI:List Int→Int→Option (List Int)
 | [],n=>some [n]
 | x::xs,n=>if x.natAbs<n.natAbs then(qI xs n).map (x :: ·) else if x.natAbs=n.natAbs then(if x=n then some (x::xs) else none) else some (n::x::xs)
def kA:List Int→List Int→Option (List Int)
 | out,[]=>some out
 | out,n::ns=>match qI out n with
   | none=>none
   | some o=>kA o ns
def dD(list:List Int):Option (List Int):=if list.all fun l=>dz l 60 then kA [] list else none
def unit(put c:List Int):Int×Bool:=
 if c.any put.contains then(0,false) else match c.filter (fun l=>!put.contains (-l)) with
  | []=>(0,true)
  | [l]=>(l,false)
  | _=>(0,false)
def scan(put:List Int):List (List Int)→Int×Bool
 | []=>(0,false)
 | c::cs=>if(unit put c).2 then(0,true) else if(unit put c).1=0 then scan put cs else((unit put c).1,false)
def ma(list:List (List Int)):Nat→List Int→List Int×Bool
 | 0,put=>(put,false)
 | n+1,put=>if(scan put list).2 then(put,true) else if(scan put list).1=0 then(put,false) else ma list n (put++[(scan put list).1])
def eF(list:List (List Int))(put:List Int):List Int×Bool:=ma list (61-put.length) put
def LA(c:dh)(clause:List Int):Bool:=mg c&&(gA clause c.many&&(eF c.list (clause.map fun l=>-l)).2)
def Ll(many:Int):List (List Int)→List (List Int)→Bool
 | _,[]=>true
 | list,x::xs=>LA ⟨many,list⟩ x&&Ll many (list++[x]) xs
def Ng(c:dh)(log:List (List Int)):Bool:=mg c&&(decide (log.length≤130)&&(decide (c.list.length+log.length≤400)&&Ll c.many c.list log))
def JG(log:List (List Int)):Bool:=match log.getLast? with|some []=>true|_=>false
def cj(c:dh)(list:List Int):dh:=match dD list with|none=>c|some x=>⟨c.many,c.list++[x]⟩
def Eg(c:dh)(v a b:Int):dh:=cj (cj (cj c [v,-a]) [v,-b]) [-v,a,b]
def xt(c:dh)(v a b:Int):dh:=cj (cj (cj (cj c [-v,-a,b]) [-v,a,-b]) [v,a,b]) [v,-a,-b]
def ir(k:Int)(c:dh)(v a b:Int):dh:=if k=3 then Eg c (-v) (-a) (-b) else if k=4 then Eg c v a b else if k=5 then Eg c v (-a) b else xt c v a b
mutual
def a6(atoms:List Atom):Form→dh→dh×Int
 | .mk k l ks,c=>
   if k=1 then(c,if l.no then -(bA atoms l.atom+1) else bA atoms l.atom+1) else
   if k=2 then((dt atoms ks c).1,-((dt atoms ks c).2.getD 0 0)) else
   (ir k ⟨(dt atoms ks c).1.many+1,(dt atoms ks c).1.list⟩ ((dt atoms ks c).1.many+1) ((dt atoms ks c).2.getD 0 0) ((dt atoms ks c).2.getD 1 0),(dt atoms ks c).1.many+1)
def dt(atoms:List Atom):List Form→dh→dh×List Int
 | [],c=>(c,[])
 | t::ts,c=>((dt atoms ts (a6 atoms t c).1).1,(a6 atoms t c).2::(dt atoms ts (a6 atoms t c).1).2)
end
def fO(atoms:List Atom):List Form→dh→dh
 | [],c=>c
 | f::fs,c=>fO atoms fs (cj (a6 atoms f c).1 [(a6 atoms f c).2])
def I3:dh:=⟨0,[]⟩
def gW(list:List Form):dh:=match bZ list with|none=>I3|some atoms=>fO atoms list ⟨atoms.length,[]⟩
def nM(c:dh):List rl→dh
 | []=>c
 | l::ls=>nM (cj c (l.marks.map fun m=>-m)) ls
def GX(list:List Form)(p:BV):dh:=match bZ list with
 | none=>I3
 | some atoms=>if decide (p.lemmas.length≤64)&&p.lemmas.all (fun l=>hH l.marks atoms.length) then nM (gW list) p.lemmas else I3
def Jx(s:eD)(list:List Form)(p:BV):Bool:=
 iG s list&&(decide (p.lemmas.length≤64)&&(p.lemmas.all (JA s list)&&(Ng (GX list p) p.log&&JG p.log)))
def Ay(f:Form):Form:=.mk 2 Jv [f]
def Nt(s:eD)(list:List Form)(f:Form)(p:BV):Bool:=Jx s (list++[Ay f]) p
def Gm(l:List Int):Prop:=l.Pairwise fun a b=>a.natAbs<b.natAbs
theorem Fb:∀{a b:List Int},Gm a→Gm b→(∀x,x∈a↔x∈b)→a=b
 | [],[],_,_,_=>rfl
 | [],y::ys,_,_,h=>by have:=(h y).2 (by simp);simp at this
 | x::xs,[],_,_,h=>by have:=(h x).1 (by simp);simp at this
 | x::xs,y::ys,ha,hb,h=>by
   obtain⟨a1,a2⟩:=bD.1 ha
   obtain⟨b1,b2⟩:=bD.1 hb
   have e:x=y:=by
    rcases aw.1 ((h x).1 (by simp)) with e|e
    ·exact e
    ·rcases aw.1 ((h y).2 (by simp)) with e2|e2
     ·exact e2.symm
     ·have:=b1 x e
      have:=a1 y e2
      omega
   subst e
   congr 1
   refine Fb a2 b2 fun z=>?_
   constructor
   ·intro hz
    rcases aw.1 ((h z).1 (bG _ hz)) with e|e
    ·rw[e] at hz;have:=a1 x hz;omega
    ·exact e
   ·intro hz
    rcases aw.1 ((h z).2 (bG _ hz)) with e|e
    ·rw[e] at hz;have:=b1 x hz;omega
    ·exact e
theorem zk:∀{l:List Int}{n:Int},Gm l→n≠0 → -n∈l→qI l n=none
 | [],_,_,_,h=>by simp at h
 | x::xs,n,hi,hn,h=>by
   obtain⟨a1,a2⟩:=bD.1 hi
   rcases aw.1 h with e|e
   ·have h1:¬x.natAbs<n.natAbs:=by omega
    have h2:x.natAbs=n.natAbs:=by omega
    have h3:¬x=n:=by omega
    rw[qI,if_neg h1,if_pos h2,if_neg h3]
   ·have:=a1 _ e
    have h1:x.natAbs<n.natAbs:=by omega
    simp only[qI,h1,if_true,zk a2 hn e,Option.map_none]
theorem tv:∀{l:List Int}{n:Int},Gm l → -n∉l→∃o,qI l n=some o∧Gm o∧∀x,x∈o↔x=n∨x∈l
 | [],n,_,_=>⟨[n],rfl,jh _ _,by simp⟩
 | x::xs,n,hi,hn=>by
   obtain⟨a1,a2⟩:=bD.1 hi
   rcases fA x.natAbs n.natAbs with h1|h1|h1
   ·obtain⟨o,e,i1,i2⟩:=tv (n:=n) a2 (fun hh=>hn (bG _ hh))
    refine⟨x::o,by simp only[qI,h1,if_true,e,cX],bD.2 ⟨fun y hy=>?_,i1⟩,fun z=>?_⟩
    ·rcases(i2 y).1 hy with e|e
     ·rw[e];exact h1
     ·exact a1 y e
    ·rw[aw,i2,aw]
     constructor
     ·rintro(h|h|h)
      ·exact .inr (.inl h)
      ·exact .inl h
      ·exact .inr (.inr h)
     ·rintro(h|h|h)
      ·exact .inr (.inl h)
      ·exact .inl h
      ·exact .inr (.inr h)
   ·have hx:x=n:=by
     rcases fG.1 h1 with e|e
     ·exact e
     ·exact absurd (by simp[e]) hn
    have h2:¬x.natAbs<n.natAbs:=by omega
    refine⟨x::xs,by rw[qI,if_neg h2,if_pos h1,if_pos hx],hi,fun z=>?_⟩
    rw[hx,aw]
    constructor
    ·intro h;exact .inr h
    ·rintro(h|h)
     ·exact .inl h
     ·exact h
   ·have h2:¬x.natAbs<n.natAbs:=by omega
    have h3:¬x.natAbs=n.natAbs:=by omega
    refine⟨n::x::xs,by simp only[qI,h2,h3,if_false],bD.2 ⟨fun y hy=>?_,hi⟩,fun z=>by rw[aw]⟩
    rcases aw.1 hy with e|e
    ·rw[e];exact h1
    ·have:=a1 y e;omega
def Fair(l:List Int):Prop:=∀x∈l,-x∉l
theorem tX:∀{ns out:List Int},Gm out→(∀x∈ns,-x∉ns ∧ -x∉out)→∃o,kA out ns=some o∧Gm o∧∀x,x∈o↔x∈ns∨x∈out
 | [],out,hi,_=>⟨out,rfl,hi,by simp⟩
 | n::ns,out,hi,h=>by
   obtain⟨h1,h2⟩:=h n (by simp)
   obtain⟨o,e,i1,i2⟩:=tv (n:=n) hi h2
   obtain⟨o2,e2,j1,j2⟩:=tX (ns:=ns) i1 (fun x hx=>by
    obtain⟨q1,q2⟩:=h x (bG _ hx)
    refine⟨fun hh=>q1 (bG _ hh),fun hh=>?_⟩
    rcases(i2 (-x)).1 hh with e|e
    ·exact q1 (by rw[e];simp)
    ·exact q2 e)
   refine⟨o2,by simp only[kA,e,e2],j1,fun z=>?_⟩
   rw[j2,i2,aw]
   constructor
   ·rintro(h|h|h)
    ·exact .inl (.inr h)
    ·exact .inl (.inl h)
    ·exact .inr h
   ·rintro((h|h)|h)
    ·exact .inr (.inl h)
    ·exact .inl h
    ·exact .inr (.inr h)
theorem uv:∀{ns out:List Int},Gm out→(∀x∈ns,x≠0)→(∃x∈ns,-x∈ns ∨ -x∈out)→kA out ns=none
 | [],_,_,_,⟨x,hx,_⟩=>by simp at hx
 | n::ns,out,hi,h0,h=>by
   rcases aa (-n∈out) with hn|hn
   ·simp only[kA,zk hi (h0 n (by simp)) hn]
   ·obtain⟨o,e,i1,i2⟩:=tv (n:=n) hi hn
    simp only[kA,e]
    refine uv i1 (fun x hx=>h0 x (bG _ hx)) ?_
    have hn0:=h0 n (by simp)
    obtain⟨x,hx,hh⟩:=h
    rcases aw.1 hx with ex|ex
    ·rw[ex] at hh
     rcases hh with hh|hh
     ·rcases aw.1 hh with e2|e2
      ·omega
      ·exact⟨-n,e2,.inr ((i2 _).2 (.inl (by omega)))⟩
     ·exact absurd hh hn
    ·rcases hh with hh|hh
     ·rcases aw.1 hh with e2|e2
      ·exact⟨x,ex,.inr ((i2 _).2 (.inl e2))⟩
      ·exact⟨x,ex,.inl e2⟩
     ·exact⟨x,ex,.inr ((i2 _).2 (.inr hh))⟩
def ins(l:List Int)(n:Int):List Int:=(l.filter fun x=>decide (x.natAbs≤n.natAbs))++n::l.filter fun x=>decide (n.natAbs<x.natAbs)
def de(l:List Int):List Int:=l.foldl ins []
def Lj(l:List Int):Prop:=l.Pairwise fun a b=>a.natAbs≤b.natAbs
theorem K6{l:List Int}{n:Int}(h:Lj l):Lj (ins l n):=by
 unfold ins Lj
 refine List.pairwise_append.2 ⟨h.filter _,bD.2 ⟨fun y hy=>?_,h.filter _⟩,fun a ha b hb=>?_⟩
 ·have:=(cJ.1 hy).2
  simp only[decide_eq_true_eq] at this
  omega
 ·have h1:=(cJ.1 ha).2
  simp only[decide_eq_true_eq] at h1
  rcases aw.1 hb with e|e
  ·rw[e];exact h1
  ·have h2:=(cJ.1 e).2
   simp only[decide_eq_true_eq] at h2
   omega
theorem KX{l:List Int}{n x:Int}:x∈ins l n↔x=n∨x∈l:=by
 unfold ins
 rw[aE,aw,cJ,cJ]
 simp only[decide_eq_true_eq]
 constructor
 ·rintro(h|h|h)
  ·exact .inr h.1
  ·exact .inl h
  ·exact .inr h.1
 ·rintro(h|h)
  ·exact .inr (.inl h)
  ·rcases cF n.natAbs x.natAbs with q|q
   ·exact .inr (.inr ⟨h,q⟩)
   ·exact .inl ⟨h,q⟩
theorem w8:∀{l acc:List Int},Lj acc→Lj (l.foldl ins acc)∧∀x,x∈l.foldl ins acc↔x∈l∨x∈acc
 | [],acc,h=>⟨h,by simp⟩
 | n::l,acc,h=>by
   obtain⟨h1,h2⟩:=w8 (l:=l) (K6 (n:=n) h)
   refine⟨h1,fun x=>?_⟩
   rw[iJ,h2,KX,aw]
   constructor
   ·rintro(h|h|h)
    ·exact .inl (.inr h)
    ·exact .inl (.inl h)
    ·exact .inr h
   ·rintro((h|h)|h)
    ·exact .inr (.inl h)
    ·exact .inl h
    ·exact .inr (.inr h)
theorem pd(l:List Int):Lj (de l):=(w8 (l:=l) (acc:=[]) List.Pairwise.nil).1
theorem lj(l:List Int)(x:Int):x∈de l↔x∈l:=by
 have:=(w8 (l:=l) (acc:=[]) List.Pairwise.nil).2 x
 rw[de,this];simp
def compact:List Int→List Int
 | []=>[]
 | [x]=>[x]
 | x::y::l=>if x=y then compact (y::l) else x::compact (y::l)
theorem mq:∀(l:List Int)(x:Int),x∈compact l↔x∈l
 | [],_=>by simp[compact]
 | [a],_=>by simp[compact]
 | a::b::l,x=>by
   have ih:=mq (b::l) x
   unfold compact
   split
   ·rename_i e
    rw[ih,e];simp
   ·rw[aw,ih,aw (a:=x) (b:=a)]
theorem om:∀{l:List Int},Lj l→(∀x∈l,∀y∈l,x.natAbs=y.natAbs→x=y)→Gm (compact l)
 | [],_,_=>List.Pairwise.nil
 | [a],_,_=>jh _ _
 | a::b::l,hs,hu=>by
   obtain⟨h1,h2⟩:=bD.1 hs
   have ih:=om (l:=b::l) h2 (fun x hx y hy=>hu x (bG _ hx) y (bG _ hy))
   unfold compact
   split
   ·exact ih
   ·rename_i e
    refine bD.2 ⟨fun y hy=>?_,ih⟩
    rw[mq] at hy
    have hle:=h1 y hy
    rcases cF a.natAbs y.natAbs with q|q
    ·exact q
    ·have e1:=hu a (by simp) y (bG _ hy) (by omega)
     have hb:=h1 b (by simp)
     have hyb:b.natAbs≤y.natAbs:=by
      rcases aw.1 hy with e2|e2
      ·rw[e2];exact Nat.le_refl _
      ·exact(bD.1 h2).1 y e2
     have:=hu a (by simp) b (by simp) (by omega)
     exact absurd this e
theorem yn{l:List Int}(h0:∀x∈l,x≠0)(hf:Fair l):kA [] l=some (compact (de l)):=by
 obtain⟨o,e,i1,i2⟩:=tX (ns:=l) (out:=[]) List.Pairwise.nil (fun x hx=>⟨hf x hx,by simp⟩)
 rw[e]
 congr 1
 refine Fb i1 (om (pd l) fun x hx y hy hxy=>?_) fun x=>?_
 ·rw[lj] at hx hy
  rcases fG.1 hxy with e|e
  ·exact e
  ·exact absurd (by rw[e] at hx;exact hx) (hf y hy)
 ·rw[i2,mq,lj];simp
def gY(put:List Int):Prop:=put.Pairwise (fun a b=>a.natAbs≠b.natAbs)∧∀x∈put,x≠0∧x.natAbs≤60
theorem kU{put:List Int}(h:gY put):put.length≤60:=by
 have h1:=Ak 60 (put.map fun m=>m.natAbs-1) (by
  rw[my]
  refine List.Pairwise.imp_of_mem ?_ h.1
  intro a b ha hb hab e
  have:=h.2 a ha
  have:=h.2 b hb
  exact hab (by omega)) (fun x hx=>by
  obtain⟨m,hm,rfl⟩:=bO.1 hx
  have:=h.2 m hm
  omega)
 rwa [bj] at h1
theorem r5{put:List Int}{l:Int}(h:gY put)(h0:l≠0)(h1:l.natAbs≤60)(h2:l∉put)(h3:-l∉put):gY (put++[l]):=by
 refine⟨List.pairwise_append.2 ⟨h.1,jh _ _,fun a ha b hb=>?_⟩,fun x hx=>?_⟩
 ·rw[bU.1 hb]
  intro e
  rcases fG.1 e with e|e
  ·exact h2 (by rw[←e];exact ha)
  ·exact h3 (by rw[←e];exact ha)
 ·rcases aE.1 hx with hx|hx
  ·exact h.2 x hx
  ·rw[bU.1 hx];exact⟨h0,h1⟩
theorem Hl{put:List Int}(h:gY put):Fair put:=by
 intro x hx hn
 have h0:=h.2 x hx
 have key:∀{l:List Int},l.Pairwise (fun a b=>a.natAbs≠b.natAbs)→x∈l → -x∈l→x≠0→False:=by
  intro l
  induction l with
  | nil=>intro _ h _ _;simp at h
  | cons a l ih=>
    intro hp h1 h2 h3
    obtain⟨p1,p2⟩:=bD.1 hp
    rcases aw.1 h1 with e|e
    ·rcases aw.1 h2 with e2|e2
     ·omega
     ·exact p1 _ e2 (by rw[←e];simp)
    ·rcases aw.1 h2 with e2|e2
     ·exact p1 _ e (by rw[←e2];simp)
     ·exact ih p2 e e2 h3
 exact key h.1 hx hn h0.1
theorem I2{put c:List Int}(h:(unit put c).1≠0):(unit put c).2=false∧(unit put c).1∈c∧(unit put c).1∉put ∧ -(unit put c).1∉put:=by
 unfold unit at h⊢
 split at h
 ·exact absurd rfl h
 ·rename_i ha
  rw[if_neg ha]
  split at h
  ·exact absurd rfl h
  ·rename_i l hl
   have hm:l∈c.filter (fun l=>!put.contains (-l)):=by rw[hl];simp
   obtain⟨m1,m2⟩:=cJ.1 hm
   refine⟨rfl,m1,fun hh=>ha (List.any_eq_true.2 ⟨l,m1,bo.2 hh⟩),fun hh=>?_⟩
   simp at m2
   exact m2 hh
  ·exact absurd rfl h
theorem xP{put:List Int}:∀{list:List (List Int)},(scan put list).1≠0→∃c∈list,(scan put list).1∈c∧(scan put list).1∉put ∧ -(scan put list).1∉put
 | [],h=>absurd rfl h
 | c::cs,h=>by
   rcases aa ((unit put c).2=true) with h1|h1
   ·simp only[scan,h1,if_true] at h;exact absurd rfl h
   ·rcases aa ((unit put c).1=0) with h2|h2
    ·simp only[scan,h1,h2,if_true,if_false] at h⊢
     obtain⟨d,hd,hh⟩:=xP h
     exact⟨d,bG _ hd,hh⟩
    ·simp only[scan,h1,h2,if_false]
     obtain⟨_,q⟩:=I2 h2
     exact⟨c,by simp,q⟩
theorem qN{list:List (List Int)}{put:List Int}(h:put.length≤60):eF list put=if(scan put list).2 then(put,true) else if(scan put list).1=0 then(put,false) else eF list (put++[(scan put list).1]):=by
 have e:61-put.length=(61-(put++[(scan put list).1]).length)+1:=by simp;omega
 unfold eF
 rw[e,ma]
theorem sR{put:List Int}{list:List (List Int)}{i:Nat}(h:i<list.length):scan put (list.drop i)=if(unit put list[i]).2 then(0,true) else if(unit put list[i]).1=0 then scan put (list.drop (i+1)) else((unit put list[i]).1,false):=by
 rw[af h,scan]
theorem xJ{put:List Int}{list:List (List Int)}{i:Nat}(h:list.length≤i):scan put (list.drop i)=(0,false):=by
 rw[ag h,scan]
def Db(put:List Int):List Int→Int→Int→Int×Int
 | [],n,left=>(n,left)
 | l::ls,n,left=>if N5 put l=1 then(2,0) else if N5 put l=0 then Db put ls (n+1) (if n=0 then l else left) else Db put ls n left
def left(put c:List Int):Int×Int:=Db put c 0 0
theorem iM{l many:Int}:dz l many=true↔l≠0 ∧ -many≤l∧l≤many:=by
 simp only[dz,ae,decide_eq_true_eq,cz]
theorem Bd{put:List Int}{list:List (List Int)}(hp:gY put)(hc:∀x∈list,∀l∈x,l≠0∧l.natAbs≤60)(h:(scan put list).1≠0):gY (put++[(scan put list).1]):=by
 obtain⟨c,hc1,h1,h2,h3⟩:=xP h
 have:=hc c hc1 _ h1
 exact r5 hp this.1 this.2 h2 h3
theorem rS(atoms:List Atom)(t:Form)(c:dh):a6 atoms t c =
 if t.kind=1 then(c,if t.lit.no then -(bA atoms t.lit.atom+1) else bA atoms t.lit.atom+1) else
 if t.kind=2 then((dt atoms t.kids c).1,-((dt atoms t.kids c).2.getD 0 0)) else
 (ir t.kind ⟨(dt atoms t.kids c).1.many+1,(dt atoms t.kids c).1.list⟩ ((dt atoms t.kids c).1.many+1) ((dt atoms t.kids c).2.getD 0 0) ((dt atoms t.kids c).2.getD 1 0),(dt atoms t.kids c).1.many+1):=by
 cases t;rfl
theorem eS(c:dh)(l:List Int):(cj c l).many=c.many:=by unfold cj;split<;>rfl
theorem cO(c:dh)(l:List Int):(cj c l).list.length≤c.list.length+1:=by unfold cj;split<;>simp
theorem wo(c:dh)(v a b:Int):(Eg c v a b).many=c.many:=by simp only[Eg,eS]
theorem FW(c:dh)(v a b:Int):(xt c v a b).many=c.many:=by simp only[xt,eS]
theorem lC(k:Int)(c:dh)(v a b:Int):(ir k c v a b).many=c.many:=by
 unfold ir
 split
 ·exact wo _ _ _ _
 ·split
  ·exact wo _ _ _ _
  ·split
   ·exact wo _ _ _ _
   ·exact FW _ _ _ _
theorem AD(c:dh)(v a b:Int):(Eg c v a b).list.length≤c.list.length+4:=by
 unfold Eg
 have h1:=cO (cj (cj c [v,-a]) [v,-b]) [-v,a,b]
 have h2:=cO (cj c [v,-a]) [v,-b]
 have h3:=cO c [v,-a]
 omega
theorem GG(c:dh)(v a b:Int):(xt c v a b).list.length≤c.list.length+4:=by
 unfold xt
 have h1:=cO (cj (cj (cj c [-v,-a,b]) [-v,a,-b]) [v,a,b]) [v,-a,-b]
 have h2:=cO (cj (cj c [-v,-a,b]) [-v,a,-b]) [v,a,b]
 have h3:=cO (cj c [-v,-a,b]) [-v,a,-b]
 have h4:=cO c [-v,-a,b]
 omega
theorem Fw(k:Int)(c:dh)(v a b:Int):(ir k c v a b).list.length≤c.list.length+4:=by
 unfold ir
 split
 ·exact AD _ _ _ _
 ·split
  ·exact AD _ _ _ _
  ·split
   ·exact AD _ _ _ _
   ·exact GG _ _ _ _
mutual
theorem c9:∀(t:Form)(d:Nat)(atoms:List Atom)(c:dh),aJ t d=true→c.many≤(a6 atoms t c).1.many∧(a6 atoms t c).1.many≤c.many+bJ t d∧(a6 atoms t c).1.list.length≤c.list.length+4*bJ t d
 | .mk k l ks,0,_,_,h=>by simp[aJ] at h
 | .mk k l ks,d+1,atoms,c,h=>by
   simp only[aJ,ae] at h
   have ih:=oT ks d atoms c h.2
   simp only[a6,bJ]
   split
   ·simp only;omega
   ·split
    ·simp only;omega
    ·simp only[lC]
     have:=Fw k ⟨(dt atoms ks c).1.many+1,(dt atoms ks c).1.list⟩ ((dt atoms ks c).1.many+1) ((dt atoms ks c).2.getD 0 0) ((dt atoms ks c).2.getD 1 0)
     simp only at this
     omega
theorem oT:∀(ts:List Form)(d:Nat)(atoms:List Atom)(c:dh),bc ts d=true→c.many≤(dt atoms ts c).1.many∧(dt atoms ts c).1.many≤c.many+bl ts d∧(dt atoms ts c).1.list.length≤c.list.length+4*bl ts d
 | [],_,_,c,_=>by simp[dt,bl]
 | t::ts,d,atoms,c,h=>by
   simp only[bc,ae] at h
   have h1:=c9 t d atoms c h.1
   have h2:=oT ts d atoms (a6 atoms t c).1 h.2
   simp only[dt,bl]
   omega
end
theorem DL(atoms:List Atom)(t:Form)(c:dh):dt atoms [t] c=((a6 atoms t c).1,[(a6 atoms t c).2]):=rfl
theorem dR:∀(t:Form)(d:Nat)(atoms:List Atom)(c:dh),aJ t d=true→inside atoms t→(atoms.length:Int)≤c.many→0≤c.many→(a6 atoms t c).2≠0 ∧ -(a6 atoms t c).1.many≤(a6 atoms t c).2∧(a6 atoms t c).2≤(a6 atoms t c).1.many:=by
 refine Form.ind fun k l ks ih d atoms c h nh hc h0=>?_
 cases d with
 | zero=>simp[aJ] at h
 | succ d=>
 have hg:=c9 (.mk k l ks) (d+1) atoms c h
 have hk:=cp h
 rw[rS] at hg⊢
 rcases aa ((Form.mk k l ks).kind=1) with h1|h1
 ·rw[if_pos h1] at hg⊢
  have hm:=qn nh h1
  have h2:=hG.2 hm
  have h3:=v8 hm
  simp only
  split<;>omega
 ·rw[if_neg h1] at hg⊢
  rcases aa ((Form.mk k l ks).kind=2) with h2|h2
  ·rw[if_pos h2] at hg⊢
   have db:(Form.mk k l ks).kids.length=1:=by
    have:=hk.1
    simp only[dB,ae,decide_eq_true_eq] at this
    have e:=this.1
    rw[h2] at e
    have e2:cw 2=1:=rfl
    omega
   obtain⟨u,hu⟩:=cg.1 db
   have hum:u∈(Form.mk k l ks).kids:=by rw[hu];simp
   have hku:=ih u hum d atoms c (bt hk.2.2 u hum) (du nh h1 u hum) hc h0
   rw[hu,DL]
   simp only[List.getD_cons_zero]
   omega
  ·rw[if_neg h2] at hg⊢
   have hgs:=oT (Form.mk k l ks).kids d atoms c hk.2.2
   simp only[lC]
   omega
theorem Cd:∀{l:List Int}{n:Int}{o:List Int},qI l n=some o→o.length≤l.length+1∧∀x∈o,x=n∨x∈l
 | [],n,o,h=>by
   simp only[qI,Option.some.injEq] at h
   rw[←h];simp
 | a::l,n,o,h=>by
   rcases fA a.natAbs n.natAbs with h1|h1|h1
   ·rw[qI,if_pos h1] at h
    cases hp:qI l n with
    | none=>rw[hp] at h;cases h
    | some o'=>
      rw[hp] at h
      simp only[cX,Option.some.injEq] at h
      obtain⟨i1,i2⟩:=Cd hp
      rw[←h]
      refine⟨by simp only[aq];omega,fun x hx=>?_⟩
      rcases aw.1 hx with e|e
      ·exact .inr (by rw[e];simp)
      ·rcases i2 x e with e2|e2
       ·exact .inl e2
       ·exact .inr (bG _ e2)
   ·rw[qI,if_neg (by omega),if_pos h1] at h
    split at h
    ·simp only[Option.some.injEq] at h
     rw[←h]
     exact⟨by omega,fun x hx=>.inr hx⟩
    ·cases h
   ·rw[qI,if_neg (by omega),if_neg (by omega)] at h
    simp only[Option.some.injEq] at h
    rw[←h]
    exact⟨by simp,fun x hx=>aw.1 hx⟩
theorem wO:∀{ns out o:List Int},kA out ns=some o→o.length≤out.length+ns.length∧∀x∈o,x∈ns∨x∈out
 | [],out,o,h=>by
   simp only[kA,Option.some.injEq] at h
   rw[←h];simp
 | n::ns,out,o,h=>by
   simp only[kA] at h
   split at h
   ·cases h
   ·rename_i o' hp
    obtain⟨i1,i2⟩:=Cd hp
    obtain⟨j1,j2⟩:=wO h
    refine⟨by simp only[aq];omega,fun x hx=>?_⟩
    rcases j2 x hx with e|e
    ·exact .inl (bG _ e)
    ·rcases i2 x e with e2|e2
     ·exact .inl (by rw[e2];simp)
     ·exact .inr e2
theorem zU{l o:List Int}(h:dD l=some o):o.length≤l.length∧∀x∈o,x∈l:=by
 unfold dD at h
 split at h
 ·obtain⟨i1,i2⟩:=wO h
  refine⟨by simpa using i1,fun x hx=>?_⟩
  rcases i2 x hx with e|e
  ·exact e
  ·simp at e
 ·cases h
theorem A3{l:List Int}(h:(l.all fun x=>dz x 60)=false):dD l=none:=by
 unfold dD;rw[h];rfl
theorem yP{l:List Int}(h:(l.all fun x=>dz x 60)=true):dD l=kA [] l:=by
 unfold dD;rw[h];rfl
theorem Ho{l:List Int}(h:(l.all fun x=>dz x 60)=true):∀x∈l,x≠0∧x.natAbs≤60:=by
 intro x hx
 have:=iM.1 (bS.1 h x hx)
 omega
def tM(l:List Int):Bool:=l.all fun x=>dz x 60&& !l.contains (-x)
theorem lE(l:List Int):dD l=if tM l then some (compact (de l)) else none:=by
 rcases aa ((l.all fun x=>dz x 60)=true) with h1|h1
 ·have h0:=Ho h1
  rw[yP h1]
  rcases aa (tM l=true) with h2|h2
  ·rw[if_pos h2]
   refine yn (fun x hx=>(h0 x hx).1) fun x hx hn=>?_
   have:=bS.1 h2 x hx
   simp at this
   exact this.2 hn
  ·rw[if_neg h2]
   refine uv List.Pairwise.nil (fun x hx=>(h0 x hx).1) ?_
   have h3:∃x∈l,¬ (dz x 60&& !l.contains (-x))=true:=by
    refine l7 fun hh=>h2 (bS.2 fun x hx=>?_)
    exact l7 fun h4=>hh ⟨x,hx,h4⟩
   obtain⟨x,hx,hh⟩:=h3
   have hm:=bS.1 h1 x hx
   rw[hm,Bool.true_and] at hh
   cases hc:l.contains (-x)
   ·rw[hc] at hh;exact absurd rfl hh
   ·exact⟨x,hx,.inl (bo.1 hc)⟩
 ·have h2:(l.all fun x=>dz x 60)=false:=by simpa using h1
  rw[A3 h2]
  have h3:¬tM l=true:=fun hh=>h1 (bS.2 fun x hx=>by
   have:=bS.1 hh x hx
   simp only[ae] at this
   exact this.1)
  rw[if_neg h3]
def kM(c:List Int)(i:Nat):Option Int:=if i=0 then none else c[i-1]?
theorem qb{c:List Int}{i:Nat}(h:i<c.length):kM c (i+1)=some c[i]:=by simp[kM,h]
theorem yv{many:Int}{c:List Int}{i:Nat}(h:i<c.length)(h0:i=0):fZ many (kM c i) (c.drop i)=(dz c[i] many&&fZ many (kM c (i+1)) (c.drop (i+1))):=by
 rw[af h,qb h]
 subst h0
 simp[kM,fZ]
theorem yb{many:Int}{c:List Int}{i:Nat}(h:i<c.length)(h0:i≠0)(h1:i-1<c.length):fZ many (kM c i) (c.drop i)=(dz c[i] many&&(decide (c[i-1].natAbs<c[i].natAbs)&&fZ many (kM c (i+1)) (c.drop (i+1)))):=by
 have e:kM c i=some c[i-1]:=by simp[kM,h0,h1]
 rw[af h,qb h,e]
 simp only[fZ]
def pL(put:List Int):List Int→Int→Int→Int×Bool
 | [],f,n=>(if 1<n then 0 else f,decide (n=0))
 | l::ls,f,n=>if put.contains l then(0,false) else if put.contains (-l) then pL put ls f n else pL put ls l (n+1)
theorem xO(put:List Int):∀(c:List Int)(f n:Int),0≤n→pL put c f n=if c.any put.contains then(0,false) else
 (if 1<n+(c.filter fun l=>!put.contains (-l)).length then 0 else(c.filter fun l=>!put.contains (-l)).getLastD f,decide (n+(c.filter fun l=>!put.contains (-l)).length=0))
 | [],f,n,h=>by simp[pL]
 | l::ls,f,n,h=>by
   rw[pL,List.any_cons,c7]
   cases h1:put.contains l
   ·cases h2:put.contains (-l)
    ·simp only[ak,if_false,iA,Bool.not_false,if_true]
     rw[xO put ls l (n+1) (by omega),aq,List.getLastD_cons]
     have e:n+1+((ls.filter fun l=>!put.contains (-l)).length:Int)=n+(((ls.filter fun l=>!put.contains (-l)).length+1:Nat):Int):=by omega
     rw[e]
    ·simp only[ak,if_false,iA,Bool.not_true,if_true]
     exact xO put ls f n h
   ·simp
theorem D4(put c:List Int):unit put c=pL put c 0 0:=by
 rw[xO put c 0 0 (by omega),unit]
 split
 ·rfl
 ·split
  ·rename_i h;rw[h];rfl
  ·rename_i l h;rw[h];rfl
  ·rename_i h1 h2
   cases hf:c.filter fun l=>!put.contains (-l) with
   | nil=>exact absurd hf h1
   | cons a t=>
     cases t with
     | nil=>exact absurd hf (h2 a)
     | cons b t=>
       have e:(1:Int)<0+((a::b::t).length:Int):=by simp only[aq];omega
       have e2:¬ (0+((a::b::t).length:Int)=0):=by simp only[aq];omega
       rw[if_pos e,decide_eq_false e2]
theorem j6{k:Int}{l:fh}{ks:List Form}(h:dB k l ks=true):(k=1∧ks.length=0)∨(k=2∧ks.length=1)∨((k=3∨k=4∨k=5∨k=6)∧ks.length=2):=by
 simp only[dB,ae,decide_eq_true_eq] at h
 have h1:=h.1
 unfold cw at h1
 split at h1<;>omega
theorem Bq{atoms:List Atom}{ks:List Form}{c:dh}(h:ks.length=1):dt atoms ks c=((a6 atoms ks[0] c).1,[(a6 atoms ks[0] c).2]):=by
 match ks,h with
 | [u],_=>rfl
theorem BW{atoms:List Atom}{ks:List Form}{c:dh}(h:ks.length=2):dt atoms ks c=((a6 atoms ks[1] (a6 atoms ks[0] c).1).1,[(a6 atoms ks[0] c).2,(a6 atoms ks[1] (a6 atoms ks[0] c).1).2]):=by
 match ks,h with
 | [u,v],_=>rfl
theorem pj{atoms:List Atom}{t:Form}{c:dh}(h:t.kind=1):a6 atoms t c=(c,if t.lit.no then -(bA atoms t.lit.atom+1) else bA atoms t.lit.atom+1):=by
 rw[rS,if_pos h]
theorem pq{atoms:List Atom}{t:Form}{c:dh}(h:t.kind=2)(hl:t.kids.length=1):a6 atoms t c=((a6 atoms t.kids[0] c).1,-(a6 atoms t.kids[0] c).2):=by
 rw[rS,if_neg (by omega),if_pos h,Bq hl]
 rfl
def two(atoms:List Atom)(u v:Form)(c:dh):dh:=(a6 atoms v (a6 atoms u c).1).1
theorem pn{atoms:List Atom}{t:Form}{c:dh}(h1:t.kind≠1)(h2:t.kind≠2)(hl:t.kids.length=2):a6 atoms t c =
 (ir t.kind ⟨(a6 atoms t.kids[1] (a6 atoms t.kids[0] c).1).1.many+1,(a6 atoms t.kids[1] (a6 atoms t.kids[0] c).1).1.list⟩ ((a6 atoms t.kids[1] (a6 atoms t.kids[0] c).1).1.many+1) (a6 atoms t.kids[0] c).2 (a6 atoms t.kids[1] (a6 atoms t.kids[0] c).1).2,(a6 atoms t.kids[1] (a6 atoms t.kids[0] c).1).1.many+1):=by
 rw[rS,if_neg h1,if_neg h2,BW hl]
 rfl
theorem jv{list:List Form}{f:Form}(h:f∈list):inside (aS [] list) f:=fun u hu=>ly list [] f h u hu
theorem Dm{atoms:List Atom}{list:List Form}{c:dh}{i:Nat}(h:i<list.length):fO atoms (list.drop i) c=fO atoms (list.drop (i+1)) (cj (a6 atoms list[i] c).1 [(a6 atoms list[i] c).2]):=by
 rw[af h];rfl
theorem BL{list:List rl}{c:dh}{i:Nat}(h:i<list.length):nM c (list.drop i)=nM (cj c (list[i].marks.map fun m=>-m)) (list.drop (i+1)):=by
 rw[af h];rfl
theorem xV{list:List Form}(h:bZ list=none):gW list=I3:=by unfold gW;rw[h]
theorem jU{list:List Form}{atoms:List Atom}(h:bZ list=some atoms):gW list=fO atoms list ⟨atoms.length,[]⟩:=by unfold gW;rw[h]
theorem dw{list:List Form}{atoms:List Atom}(h:bZ list=some atoms):list.length≤5∧(∀f∈list,eC f=true)∧atoms.length≤6∧atoms=aS [] list:=by
 have e:=mA list
 rcases aa (list.length≤5∧list.all eC=true∧(aS [] list).length≤6) with hc|hc
 ·rw[if_pos hc,h] at e
  have e2:=Option.some.inj e
  exact⟨hc.1,bS.1 hc.2.1,by rw[e2];exact hc.2.2,e2⟩
 ·rw[if_neg hc,h] at e
  cases e
theorem FP{list:List Form}{atoms:List Atom}(h:bZ list=some atoms){i:Nat}(hi:i<list.length){c:dh}(h1:(atoms.length:Int)≤c.many)(h2:c.many≤6+31*i)(h3:c.list.length≤125*i) :
 (a6 atoms list[i] c).2≠0 ∧ -1000≤(a6 atoms list[i] c).2∧(a6 atoms list[i] c).2≤1000∧aJ list[i] 5=true∧inside atoms list[i]∧(a6 atoms list[i] c).1.list.length≤125*i+124 ∧
 (atoms.length:Int)≤(cj (a6 atoms list[i] c).1 [(a6 atoms list[i] c).2]).many∧(cj (a6 atoms list[i] c).1 [(a6 atoms list[i] c).2]).many≤6+31*((i+1:Nat):Int)∧(cj (a6 atoms list[i] c).1 [(a6 atoms list[i] c).2]).list.length≤125*(i+1):=by
 obtain⟨p1,p2,p3,p4⟩:=dw h
 have hs:=eL (p2 list[i] (ai hi))
 have nh:inside atoms list[i]:=by rw[p4];exact jv (ai hi)
 have g:=c9 list[i] 5 atoms c hs.1
 have m:=gl list[i] 5 hs.1
 have q:=dR list[i] 5 atoms c hs.1 nh h1 (by omega)
 have a:=cO (a6 atoms list[i] c).1 [(a6 atoms list[i] c).2]
 rw[eS]
 refine⟨q.1,by omega,by omega,hs.1,nh,by omega,by omega,by omega,by omega⟩
theorem tJ:∀(fs:List Form)(atoms:List Atom)(c:dh),(∀f∈fs,eC f=true)→(fO atoms fs c).list.length≤c.list.length+125*fs.length
 | [],_,_,_=>by simp[fO]
 | f::fs,atoms,c,h=>by
   have hs:=eL (h f (by simp))
   have g:=c9 f 5 atoms c hs.1
   have m:=gl f 5 hs.1
   have a:=cO (a6 atoms f c).1 [(a6 atoms f c).2]
   have ih:=tJ fs atoms (cj (a6 atoms f c).1 [(a6 atoms f c).2]) fun x hx=>h x (by simp[hx])
   simp only[fO,aq]
   omega
theorem Ge(list:List Form):(gW list).list.length≤625:=by
 cases h:bZ list with
 | none=>rw[xV h];simp[I3]
 | some atoms=>
   obtain⟨p1,p2,p3,p4⟩:=dw h
   have:=tJ list atoms ⟨atoms.length,[]⟩ p2
   rw[jU h]
   simp only[List.length_nil] at this
   omega
theorem Iv{marks:List Int}{many:Nat}(h:hH marks many=true)(hm1:many≤6):marks.length≤12:=by
 have hmem:=nT h
 have hp:=(xT (many:=many) (before:=[]) h).1
 have h1:=Ak 12 (marks.map fun m=>if m<0 then(m+6).toNat else(m+5).toNat) (by
  rw[my]
  refine List.Pairwise.imp_of_mem ?_ hp
  intro a b ha hb hab e
  have:=hmem a ha
  have:=hmem b hb
  split at e<;>split at e<;>exact hab (by omega)) (fun x hx=>by
  obtain⟨m,hm,rfl⟩:=bO.1 hx
  have:=hmem m hm
  split<;>omega)
 rwa [bj] at h1
def uM(a b:Int):Int:=if a<b then -1 else if b<a then 1 else 0
theorem B0{a b:Int}:uM a b<0↔a<b:=by
 unfold uM
 split
 ·simp[*]
 ·split<;>simp[*]
def sk(p:List Int)(x:Int)(r:List Int)(j:Nat):List Int:=p.take j++x::(p.drop j++r)
theorem J0(l:List Int)(n:Int):(ins l n).length=l.length+1:=by
 unfold ins
 rw[an,aq]
 have h:∀l:List Int,(l.filter fun x=>decide (x.natAbs≤n.natAbs)).length+(l.filter fun x=>decide (n.natAbs<x.natAbs)).length=l.length:=by
  intro l
  induction l with
  | nil=>rfl
  | cons a l ih=>
    simp only[c7]
    rcases cF n.natAbs a.natAbs with h|h
    ·have h2:¬a.natAbs≤n.natAbs:=by omega
     simp only[h,h2,decide_true,decide_false,if_true,ak,if_false,aq]
     omega
    ·have h2:¬n.natAbs<a.natAbs:=by omega
     simp only[h,h2,decide_true,decide_false,if_true,ak,if_false,aq]
     omega
 have:=h l
 omega
theorem xW(l:List Int)(x:Int):de (l++[x])=ins (de l) x:=by unfold de;rw[List.foldl_append];rfl
theorem za:∀(l:List Int),(de l).length=l.length:=by
 intro l
 have key:∀(l acc:List Int),(l.foldl ins acc).length=acc.length+l.length:=by
  intro l
  induction l with
  | nil=>intro acc;rfl
  | cons a l ih=>intro acc;rw[iJ,ih,J0,aq];omega
 have:=key l []
 simpa[de] using this
theorem LI{p:List Int}{x:Int}{j:Nat}(h1:∀y∈p.take j,y.natAbs≤x.natAbs)(h2:∀y∈p.drop j,x.natAbs<y.natAbs):ins p x=p.take j++x::p.drop j:=by
 have e1:(p.filter fun y=>decide (y.natAbs≤x.natAbs))=p.take j:=by
  conv=>lhs;rw[←gQ j p]
  rw[fb,kQ.2 fun y hy=>decide_eq_true (h1 y hy),List.filter_eq_nil_iff.2 fun y hy=>by have:=h2 y hy;simp;omega,List.append_nil]
 have e2:(p.filter fun y=>decide (x.natAbs<y.natAbs))=p.drop j:=by
  conv=>lhs;rw[←gQ j p]
  rw[fb,List.filter_eq_nil_iff.2 fun y hy=>by have:=h1 y hy;simp;omega,kQ.2 fun y hy=>decide_eq_true (h2 y hy),bx]
 unfold ins
 rw[e1,e2]
theorem LV{p:List Int}(x:Int)(r:List Int){j:Nat}(h:p.length≤j):sk p x r j=p++x::r:=by
 unfold sk;rw[ao h,ag h,bx]
theorem LD{p:List Int}(x:Int)(r:List Int){j:Nat}(h:j≤p.length):(sk p x r j).length=p.length+1+r.length:=by
 unfold sk
 simp only[an,aq,aO,List.length_drop]
 omega
theorem M9{p:List Int}(x:Int)(r:List Int){j:Nat}(h:j≤p.length)(hs:j<(sk p x r j).length):(sk p x r j)[j]=x:=by
 have e:(sk p x r j)[j]?=some x:=by
  unfold sk
  rw[List.getElem?_append_right (by rw[aO];omega)]
  have e:j-(p.take j).length=0:=by rw[aO];omega
  rw[e];rfl
 rw[ab hs] at e
 exact Option.some.inj e
theorem Fv{p:List Int}(x:Int)(r:List Int){j:Nat}(h:j≤p.length)(h0:0<j)(hp:j-1<p.length)(hs:j-1<(sk p x r j).length):(sk p x r j)[j-1]=p[j-1]:=by
 have e:(sk p x r j)[j-1]?=some p[j-1]:=by
  unfold sk
  rw[aX (by rw[aO];omega),List.getElem?_take_of_lt (by omega),ab hp]
 rw[ab hs] at e
 exact Option.some.inj e
theorem JF{p:List Int}(x:Int)(r:List Int){k:Nat}(hp:k<p.length):((sk p x r (k+1)).set (k+1) p[k]).set k x=sk p x r k:=by
 have e1:p.take (k+1)=p.take k++[p[k]]:=by rw[List.take_add_one,ab hp];rfl
 have hk:(p.take k).length=k:=by rw[aO];omega
 have e2:k+1-k=1:=by omega
 unfold sk
 rw[e1,List.append_assoc,gR _ _ (by omega),hk,gR _ _ (by omega),hk,af hp,Nat.sub_self,e2]
 rfl
theorem Il{p:List Int}{x:Int}{r:List Int}{j:Nat}(hs:Lj p)(hd:∀y∈p.drop j,x.natAbs<y.natAbs)(hj:∀hj0:j-1<p.length,0<j→(p[j-1]).natAbs≤x.natAbs)(hji:j≤p.length):sk p x r j=ins p x++r:=by
 rw[LI (j:=j) (fun y hy=>?_) hd]
 ·unfold sk;simp
 ·obtain⟨k,hk,rfl⟩:=List.mem_iff_getElem.1 hy
  rw[aO] at hk
  rw[List.getElem_take]
  have h1:=hj (by omega) (by omega)
  rcases cF k (j-1) with h2|h2
  ·have:=(List.pairwise_iff_getElem.1 hs) k (j-1) (by omega) (by omega) h2
   omega
  ·have e2:k=j-1:=by omega
   subst e2
   exact h1
theorem w9{d e:Array Int}:∀m,(∀j,j<m→d[j]! = e[j]!)→Lib.compactUpTo d m=Lib.compactUpTo e m
 | 0,_=>rfl
 | m+1,h=>by
   rw[Lib.compactUpTo_succ,Lib.compactUpTo_succ,w9 m (fun j hj=>h j (by omega)),h m (by omega)]
   have e1:Lib.keeps d m=Lib.keeps e m:=by
    unfold Lib.keeps
    rw[h m (by omega),h (m-1) (by omega)]
   rw[e1]
theorem re:∀(zs:List Int)(x:Int),compact (zs++[x])=if zs.getLast?=some x then compact zs else compact zs++[x]
 | [],x=>by simp[compact]
 | [a],x=>by
   rcases aa (a=x) with h|h
   ·simp[compact,h]
   ·simp[compact,h]
 | a::b::l,x=>by
   have ih:=re (b::l) x
   rw[List.getLast?_cons_cons]
   simp only[List.cons_append,compact] at ih⊢
   rcases aa (a=b) with h|h
   ·rw[if_pos h,if_pos h,ih]
   ·rw[if_neg h,if_neg h,ih]
    split<;>rfl
theorem ur:∀(n:Nat)(zs:List Int),zs.length=n→Lib.compact zs=compact zs
 | 0,zs,h=>by rw[cb.1 h];rfl
 | n+1,zs,h=>by
   rcases List.eq_nil_or_concat zs with e|⟨ys,x,e⟩
   ·rw[e] at h;cases h
   ·rw[List.concat_eq_append] at e
    subst e
    have hl:ys.length=n:=by simpa using h
    have ih:=ur n ys hl
    have e1:Lib.compact (ys++[x])=Lib.compactUpTo (ys++[x]).toArray (ys.length+1):=by unfold Lib.compact;rw[an];rfl
    have e2:Lib.compactUpTo (ys++[x]).toArray ys.length=compact ys:=by
     rw[←ih]
     refine w9 _ fun j hj=>?_
     simp[hj,List.getElem_append_left,Nat.lt_succ_of_lt hj]
    have e3:(ys++[x]).toArray[ys.length]! = x:=by simp
    rw[e1,Lib.compactUpTo_succ,e2,e3,re]
    have e4:Lib.keeps (ys++[x]).toArray ys.length=decide (ys.getLast?≠some x):=by
     unfold Lib.keeps
     rw[e3,List.getLast?_eq_getElem?]
     rcases Nat.eq_zero_or_pos ys.length with h0|h0
     ·have:ys=[]:=cb.1 h0
      subst this;simp
     ·have h1:ys.length-1<ys.length:=by omega
      have e5:(ys++[x]).toArray[ys.length-1]! = ys[ys.length-1]:=by
       have e6:(ys++[x])[ys.length-1]?=some ys[ys.length-1]:=by rw[aX h1,ab h1]
       rw[List.getElem!_toArray,getElem!_def,e6]
      rw[e5,ab h1]
      refine decide_eq_decide.2 ⟨fun hh he=>?_,fun hh=>.inr fun he=>hh (by rw[he])⟩
      rcases hh with hh|hh
      ·omega
      ·exact hh (Option.some.inj he).symm
    rw[e4]
    rcases aa (ys.getLast?=some x) with h1|h1
    ·simp[h1]
    ·simp[h1]
mutual
def cq:Form→List Form
 | .mk k l ks=>if k=1 then [] else if k=2 then ez ks else ez ks++[.mk k l ks]
def ez:List Form→List Form
 | []=>[]
 | t::ts=>cq t++ez ts
end
theorem s8(t:Form):cq t=if t.kind=1 then [] else if t.kind=2 then ez t.kids else ez t.kids++[t]:=by cases t;rfl
theorem vP{t:Form}(h:t.kind=1):cq t=[]:=by rw[s8,if_pos h]
theorem xo{t:Form}(h:t.kind=2)(hl:t.kids.length=1):cq t=cq t.kids[0]:=by
 rw[s8,if_neg (by omega),if_pos h]
 obtain⟨u,hu⟩:=cg.1 hl
 simp[hu,ez]
theorem wT{t:Form}(h1:t.kind≠1)(h2:t.kind≠2)(hl:t.kids.length=2):cq t=cq t.kids[0]++cq t.kids[1]++[t]:=by
 rw[s8,if_neg h1,if_neg h2]
 have key:∀(ks:List Form)(hl:ks.length=2),ez ks=cq ks[0]++cq ks[1]:=by
  intro ks hl
  match ks,hl with
  | [u,v],_=>simp[ez]
 rw[key t.kids hl]
mutual
theorem nK:∀(t:Form)(d:Nat),aJ t d=true→(cq t).length≤bJ t d
 | .mk k l ks,0,h=>by simp[aJ] at h
 | .mk k l ks,d+1,h=>by
   simp only[aJ,ae] at h
   have ih:=uj ks d h.2
   simp only[cq,bJ]
   split
   ·simp
   ·split
    ·omega
    ·rw[an,List.length_singleton];omega
theorem uj:∀(ts:List Form)(d:Nat),bc ts d=true→(ez ts).length≤bl ts d
 | [],_,_=>by simp[ez,bl]
 | t::ts,d,h=>by
   simp only[bc,ae] at h
   have h1:=nK t d h.1
   have h2:=uj ts d h.2
   simp only[ez,bl,an]
   omega
end
set_option maxRecDepth 100000
def Lk:Nat→Int→lp→lp
 | 0,_,s=>s
 | n+1,k,s=>if 0<k then Lk n (k.tdiv 10) (UInt8.ofNat (48+k.tmod 10).toNat::s) else s
def GH(k:Int):lp:=if k≤0 then [109,48] else 109::Lk 20 k []
def vB{α:Type}(f:α→Int→α×Int):List α→Int→List α×Int
 | [],k=>([],k)
 | x::xs,k=>((f x k).1::(vB f xs (f x k).2).1,(vB f xs (f x k).2).2)
theorem EZ{α:Type}(f:α→Int→α×Int):∀(xs:List α)(k:Int),(vB f xs k).1.length=xs.length
 | [],_=>rfl
 | x::xs,k=>by simp[vB,EZ f xs]
def Mk{α:Type}(f:α→Int→α×Int)(ts:List α)(k:Int)(i:Nat)(zs:List α)(k':Int):Prop:=
 zs.length=ts.length∧i≤ts.length∧zs.drop i=ts.drop i∧vB f ts k=(zs.take i++(vB f (ts.drop i) k').1,(vB f (ts.drop i) k').2)
theorem Mk.zero{α:Type}(f:α→Int→α×Int)(ts:List α)(k:Int):Mk f ts k 0 ts k:=⟨rfl,cK _,rfl,by simp⟩
theorem Mk.len{α:Type}{f:α→Int→α×Int}{ts zs:List α}{k k':Int}{i:Nat}(h:Mk f ts k i zs k'):zs.length=ts.length:=h.1
theorem Mk.at{α:Type}{f:α→Int→α×Int}{ts zs:List α}{k k':Int}{i:Nat}(h:Mk f ts k i zs k')(hi:i<ts.length):zs[i]'(by rw[h.1];exact hi)=ts[i]:=by
 have h1:zs.drop i=ts.drop i:=h.2.2.1
 have e:(zs.drop i)[0]?=(ts.drop i)[0]?:=by rw[h1]
 rw[cW,cW,Nat.add_zero,ab hi,ab (by rw[h.1];exact hi)] at e
 exact Option.some.inj e
theorem Mk.all{α:Type}{f:α→Int→α×Int}{ts zs:List α}{k k':Int}{i:Nat}(h:Mk f ts k i zs k')(hi:ts.length≤i):vB f ts k=(zs,k'):=by
 obtain⟨h1,h2,h3,h4⟩:=h
 rw[h4,ag hi,ao (by omega)]
 simp[vB]
def NV(n:Int)(k:Int):Int×Int:=(k,k+1)
mutual
def Nv:Term→Int→Term×Int
 | .mk _ ks,k=>(.mk (GH k) (HN ks (k+1)).1,(HN ks (k+1)).2)
def HN:List Term→Int→List Term×Int
 | [],k=>([],k)
 | t::ts,k=>((Nv t k).1::(HN ts (Nv t k).2).1,(HN ts (Nv t k).2).2)
end
def GQ(s:Sym)(k:Int):Sym×Int:=(⟨GH k,(vB NV s.args (k+1)).1,(vB NV s.args (k+1)).2⟩,(vB NV s.args (k+1)).2+1)
def mkAtom(a:Atom)(k:Int):Atom×Int:=
 let A:=Nv a.A (k+1)
 let B:=Nv a.B A.2
 let N:=HN a.aM B.2
 let I:=vB NV a.times N.2
 (⟨k,A.1,B.1,N.1,I.1,I.2,decide ((I.2+1).tmod 3=0)⟩,I.2+1+1)
def mkLit(l:fh)(k:Int):fh×Int:=(⟨(mkAtom l.atom k).1,decide ((mkAtom l.atom k).2.tmod 3=0)⟩,(mkAtom l.atom k).2+1)
mutual
def D7:Form→Int→Form×Int
 | .mk _ l ks,k=>(.mk k (mkLit l (k+1)).1 (pf ks (mkLit l (k+1)).2).1,(pf ks (mkLit l (k+1)).2).2)
def pf:List Form→Int→List Form×Int
 | [],k=>([],k)
 | t::ts,k=>((D7 t k).1::(pf ts (D7 t k).2).1,(pf ts (D7 t k).2).2)
end
def NU(s:Stack)(k:Int):Stack×Int:=(⟨⟨(vB GQ s.sig.syms k).1⟩,(vB pf s.levels (vB GQ s.sig.syms k).2).1⟩,(vB pf s.levels (vB GQ s.sig.syms k).2).2)
mutual
def Oe:Term→Nat
 | .mk _ ks=>1+Md ks
def Md:List Term→Nat
 | []=>0
 | t::ts=>Oe t+Md ts
end
def Ox(s:Sym):Nat:=s.args.length+2
def MX(l:fh):Nat:=Oe l.atom.A+Oe l.atom.B+Md l.atom.aM+l.atom.times.length+4
mutual
def LG:Form→Nat
 | .mk _ l ks=>1+MX l+EG ks
def EG:List Form→Nat
 | []=>0
 | t::ts=>LG t+EG ts
end
def OE{α:Type}(c:α→Nat):List α→Nat
 | []=>0
 | x::xs=>c x+OE c xs
def Hd{α:Type}(f:α→Int→α×Int)(ts zs:List α)(k:Int)(i:Nat)(q:Int):Prop:=
 zs.length=ts.length∧i≤ts.length∧zs.drop i=(vB f (ts.drop i) q).1∧(vB f ts k).2=(vB f (ts.drop i) q).2
theorem Hd.zero{α:Type}(f:α→Int→α×Int)(ts:List α)(k:Int):Hd f ts (vB f ts k).1 k 0 k:=⟨EZ f ts k,cK _,by simp,by simp⟩
theorem Hd.at{α:Type}{f:α→Int→α×Int}{ts zs:List α}{k q:Int}{i:Nat}(h:Hd f ts zs k i q)(hi:i<ts.length):zs[i]'(by rw[h.1];exact hi)=(f ts[i] q).1:=by
 have h1:=h.2.2.1
 rw[af hi,af (by rw[h.1];exact hi)] at h1
 simp only[vB] at h1
 exact(List.cons.inj h1).1
theorem Hd.all{α:Type}{f:α→Int→α×Int}{ts zs:List α}{k q:Int}{i:Nat}(h:Hd f ts zs k i q)(hi:ts.length≤i):(vB f ts k).2=q:=by
 rw[h.2.2.2,ag hi]
 rfl
end Go.Mod
