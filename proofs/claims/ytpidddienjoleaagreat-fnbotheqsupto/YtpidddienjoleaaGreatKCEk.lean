/-
  What the deciding functions of chapters 3, 5 and 8 compute, in plain Lean: elimination, closures, explanations, decisions. No program is walked here.
-/
import Derived.Test.YtpidddienjoleaaGreatKCE
set_option linter.unusedVariables false
set_option linter.unusedSimpArgs false
namespace Go.Mod
open Go.Eng
set_option maxRecDepth 100000
def aN(l:List Nat):List (List D):=l.map fun n:Nat=>[.val (.int .i64 (n:Int))]
theorem IA(l:List Nat):(aN l).length=l.length:=by simp[aN]
theorem jS{l:List Nat}{i:Nat}(h:i<l.length):row (aN l) i=[.val (.int .i64 (l[i]:Int))]:=by simp[aN,row,List.getD,List.getElem?_eq_getElem h]
theorem mi(a b:List Nat):aN a++aN b=aN (a++b):=by simp[aN]
theorem IY{l:List Nat}{i n:Nat}:(aN l).set i [.val (.int .i64 (n:Int))]=aN (l.set i n):=by simp[aN,List.map_set]
attribute [go_sem] IA jS
theorem jh{i n:Nat}(h:i<n):List.range' i (n-i)=i::List.range' (i+1) (n-(i+1)):=by
 obtain⟨k,rfl⟩:∃k,n=i+1+k:=⟨n-(i+1),by omega⟩
 have e1:i+1+k-i=k+1:=by omega
 have e2:i+1+k-(i+1)=k:=by omega
 rw[e1,e2,List.range'_succ]
theorem j6{i n:Nat}(h:n≤i):List.range' i (n-i)=[]:=by
 have e1:n-i=0:=by omega
 rw[e1];rfl
theorem NI(n:Int):(whole n).N=n:=rfl
theorem MH(n:Int):(whole n).D=1:=rfl
attribute [go_sem] NI MH
structure bB where
 kM:fq
 fB:List Int
 deriving DecidableEq
def cU(r:bB):List D:=[.bu (aO r.kM.aq),.val (.int .i64 r.kM.bound),.val (.bool r.kM.strict),.bu (aO r.fB)]
def cc(l:List bB):List (List D):=l.map cU
theorem Ig(l:List bB):(cc l).length=l.length:=by simp[cc]
theorem It{l:List bB}{i:Nat}(h:i<l.length):row (cc l) i=cU l[i]:=by simp[cc,row,List.getD,List.getElem?_eq_getElem h]
theorem Aw(a b:List bB):cc a++cc b=cc (a++b):=by simp[cc]
theorem ux:cc []=[]:=rfl
theorem xo(n:bB)(l:List bB):cc (n::l)=cU n::cc l:=rfl
attribute [go_sem] Ig It ux cU
def a7(r:bB)(v:Nat):Int:=r.kM.aq.getD v 0
def nK(n i:Nat):List Int:=(List.replicate n 0).set i 1
def aR(ls:List fq):List bB:=(List.range ls.length).map fun i=>⟨ls.getD i kf,nK ls.length i⟩
def sU(a b:bB)(v:Nat):Int:=(Int.gcd (a7 a v) (-(a7 b v)):Int)
def ot(a b:bB)(v:Nat):Int:=(a7 a v).tdiv (sU a b v)
def ov(a b:bB)(v:Nat):Int:=(-(a7 b v)).tdiv (sU a b v)
def oS(a b:bB)(v:Nat):List Int:=comb (ov a b v) (ot a b v) a.fB b.fB
def EC(a b:bB)(v:Nat):bB:=⟨(cR a.kM (ov a b v) b.kM (ot a b v)).1,oS a b v⟩
def tF(a b:bB)(v:Nat):Bool:=(cR a.kM (ov a b v) b.kM (ot a b v)).2&&(oS a b v).all fun n=>decide (n≤1000000)
def nz(a:bB)(v:Nat)(rows:List bB):List (bB×bB):=rows.filterMap fun b=>if 0<a7 a v∧a7 b v<0 then some (a,b) else none
def mX(all rows:List bB)(v:Nat):List (bB×bB):=rows.flatMap fun a=>nz a v all
def ig(v:Nat):List (bB×bB)→List bB→Option (List bB)
 | [],out=>some out
 | (a,b)::ps,out=>if tF a b v=true∧out.length<200 then ig v ps (out++[EC a b v]) else none
def fw(rows:List bB)(v:Nat):Option (List bB):=ig v (mX rows rows v) (rows.filter fun r=>decide (a7 r v=0))
def lP(v:Nat):Nat→List Int→List Rat→Rat→Option Rat
 | i,c::cs,x::xs,sum=>if i=v then lP v (i+1) cs xs sum else if(plus sum (-c) x).2 then lP v (i+1) cs xs (plus sum (-c) x).1 else none
 | _,_,_,sum=>some sum
def Ge(x:Rat×Bool):Option Rat:=if x.2 then some x.1 else none
def gV(l:fq)(v:Nat)(ay:List Rat):Option Rat:=
 match lP v 0 l.aq ay (whole l.bound) with
 | none=>none
 | some sum=>if(oj 1 (l.aq.getD v 0)).2 then Ge (eX sum (oj 1 (l.aq.getD v 0)).1) else none
def lower(x:Rat):Option Rat→Bool
 | none=>true
 | some h=>bH x h
def upper(x:Rat):Option Rat→Bool
 | none=>true
 | some l=>bH l x
def jy(v:Nat)(ay:List Rat):List bB→Option Rat→Option Rat→Option (Option Rat×Option Rat)
 | [],lo,hi=>some (lo,hi)
 | r::rs,lo,hi=>if a7 r v=0 then jy v ay rs lo hi else match gV r.kM v ay with
   | none=>none
   | some b=>if 0<a7 r v then jy v ay rs lo (if lower b hi then some b else hi) else jy v ay rs (if upper b lo then some b else lo) hi
def sW:Option Rat→Option Rat→Rat×Bool
 | some l,some h=>oM l h
 | none,some h=>fu h (whole (-1))
 | some l,none=>fu l (whole 1)
 | none,none=>(whole 0,true)
def valueOf(rows:List bB)(v:Nat)(ay:List Rat):Option Rat:=
 match jy v ay rows none none with
 | none=>none
 | some e=>Ge (sW e.1 e.2)
def fV:List (List bB)→Nat→List Rat→Option (List Rat)
 | [],_,ay=>some ay
 | rows::st,v,ay=>match valueOf rows v ay with
   | none=>none
   | some x=>fV st (v+1) (ay.set v x)
def mR:List Int→List Rat→Rat→Option Rat
 | c::cs,x::xs,sum=>if(plus sum c x).2 then mR cs xs (plus sum c x).1 else none
 | _,_,sum=>some sum
def qc(ay:List Rat):Bool:=decide (ay.length=4)&&ay.all bl
def qz(l:fq)(ay:List Rat):Option Bool:=if c5 l&&qc ay then(mR l.aq ay (whole 0)).map fun x=>below x l.bound l.strict else none
def lE(list:List fq)(ay:List Rat):Bool:=dQ list&&(qc ay&&list.all fun l=>decide (qz l ay=some true))
def o4:List Rat:=[whole 0,whole 0,whole 0,whole 0]
structure RH where
 ay:List Rat
 times:List Int
 code:Int
def gr(list:List fq)(s0 s1 s2 s3 rows:List bB):RH:=
 match rows.find? fun r=>lN r.kM with
 | some r=>if uZ list r.fB then⟨[],r.fB,1⟩ else⟨[],[],2⟩
 | none=>match fV [s0,s1,s2,s3] 0 o4 with
   | none=>⟨[],[],2⟩
   | some ay=>if lE list ay then⟨ay,[],0⟩ else⟨[],[],2⟩
def bf(list:List fq):RH:=
 if dQ list then match fw (aR list) 3 with
  | none=>⟨[],[],2⟩
  | some r2=>match fw r2 2 with
    | none=>⟨[],[],2⟩
    | some r1=>match fw r1 1 with
      | none=>⟨[],[],2⟩
      | some r0=>match fw r0 0 with
        | none=>⟨[],[],2⟩
        | some rows=>gr list r0 r1 r2 (aR list) rows
 else⟨[],[],3⟩
def au(parts:List Term)(t:Term):Nat:=(a8 parts t).toNat
def cl(class_:List Nat)(i:Nat):Nat:=class_.getD i 0
def dD(class_:List Nat)(a b:Nat):List Nat:=class_.map fun k=>if k=max (cl class_ a) (cl class_ b) then min (cl class_ a) (cl class_ b) else k
def C3(parts:List Term)(class_:List Nat)(x y:Term):Bool:=decide (cl class_ (au parts x)=cl class_ (au parts y))
def ie(parts:List Term)(class_:List Nat):List Term→List Term→Bool
 | [],[]=>true
 | x::xs,y::ys=>C3 parts class_ x y&&ie parts class_ xs ys
 | _,_=>false
def alike(parts:List Term)(class_:List Nat)(a b:Nat):Bool:=
 decide (0<(parts.getD a ao).kids.length)&&(decide ((parts.getD a ao).name=(parts.getD b ao).name)&&ie parts class_ (parts.getD a ao).kids (parts.getD b ao).kids)
def mc(parts:List Term)(class_:List Nat)(early late:Nat):Bool:=decide (cl class_ early≠cl class_ late)&&alike parts class_ early late
def dL(from_ n:Nat):List (Nat×Nat):=(List.range' from_ (n-from_)).flatMap fun l=>(List.range' 0 l).map fun e=>(e,l)
def fX(parts:List Term)(class_:List Nat):Option (Nat×Nat):=(dL 0 parts.length).find? fun p=>mc parts class_ p.1 p.2
def dS(parts:List Term):Nat→List e6→List Nat→List Step→List Nat×List Step
 | _,[],class_,steps=>(class_,steps)
 | n,e::es,class_,steps=>
   if cl class_ (au parts e.A)=cl class_ (au parts e.B) then dS parts (n+1) es class_ steps
   else dS parts (n+1) es (dD class_ (au parts e.A) (au parts e.B)) (steps++[⟨au parts e.A,au parts e.B,n⟩])
def fv(parts:List Term):Nat→List Nat→List Step→List Nat×List Step
 | 0,class_,steps=>(class_,steps)
 | f+1,class_,steps=>match fX parts class_ with
   | none=>(class_,steps)
   | some p=>fv parts f (dD class_ p.1 p.2) (steps++[⟨p.1,p.2,-1⟩])
def given(parts:List Term)(eqs:List e6):List Nat×List Step:=dS parts 0 eqs (List.range parts.length) []
def closed(parts:List Term)(eqs:List e6):List Nat×List Step:=fv parts (given parts eqs).1.sum (given parts eqs).1 (given parts eqs).2
def aw(n:Nat)(steps:List Step)(k:Nat):List Nat:=(steps.take k).foldl (fun c s=>dD c s.A.toNat s.B.toNat) (List.range n)
structure Edge where
 step:Nat
 back:Bool
 deriving DecidableEq
def fD(steps:List Step)(k:Nat):Step:=steps.getD k ⟨0,0,0⟩
def iq(n:Nat)(steps:List Step):Nat→Nat→Nat→List Edge
 | 0,_,_=>[]
 | k+1,a,b=>
   let c:=aw n steps k
   if cl c a=cl c b then iq n steps k a b
   else if cl c a=cl c (fD steps k).A.toNat then iq n steps k a (fD steps k).A.toNat++⟨k,false⟩::iq n steps k (fD steps k).B.toNat b
   else iq n steps k a (fD steps k).B.toNat++⟨k,true⟩::iq n steps k (fD steps k).A.toNat b
def lA(parts:List Term)(steps:List Step)(p9:Nat→Nat→Nat→iy)(e:Edge):iy:=
 let s:=fD steps e.step
 let w:iy:=if s.given<0 then .mk 5 0 (.mk (parts.getD s.A.toNat ao).name []) (((parts.getD s.A.toNat ao).kids.zip (parts.getD s.B.toNat ao).kids).map fun p=>p9 e.step (au parts p.1) (au parts p.2)) else .mk 2 s.given ao []
 if e.back then .mk 3 0 ao [w] else w
def ry(one:Edge→iy):iy→List Edge→iy
 | w,[]=>w
 | w,e::es=>ry one (.mk 4 0 ao [w,one e]) es
def nw(parts:List Term)(steps:List Step):Nat→Nat→Nat→Nat→iy
 | 0,_,_,_=>uy
 | f+1,n,a,b=>match iq parts.length steps n a b with
   | []=>.mk 1 0 (parts.getD a ao) []
   | e::es=>ry (lA parts steps (nw parts steps f)) (lA parts steps (nw parts steps f) e) es
def iH(parts:List Term)(steps:List Step)(a b:Term):iy:=nw parts steps (steps.length+1) steps.length (au parts a) (au parts b)
def di(nums:List Term)(out:List Nat)(e:e6):List Nat:=
 if a8 nums e.A<0∨a8 nums e.B<0 then out else out.map fun k=>if k=cl out (au nums e.A) then cl out (au nums e.B) else k
def dN(nums:List Term)(eqs:List e6):List Nat:=eqs.foldl (di nums) (List.range nums.length)
def linked(nums:List Term)(lits:List aG)(i k:Nat):Bool:=decide (cl (dN nums (aB lits)) i=cl (dN nums (aB lits)) k)
def cJ(nums:List Term)(lits:List aG)(i k:Nat):Bool:=lits.any fun l=>!l.no&&decide (l.atom=(cP (nums.getD i ao) (nums.getD k ao)).atom)
def bo(from_ n:Nat):List (Nat×Nat):=(List.range' from_ (n-from_)).flatMap fun i=>(List.range' (i+1) (n-(i+1))).map fun k=>(i,k)
def bp(n:Nat)(p:Nat→Nat→Bool):Option (Nat×Nat):=(bo 0 n).find? fun q=>p q.1 q.2
def dG(terms:List Term)(class_:List Nat)(a b:Term):Bool:=decide (cl class_ (au terms a)=cl class_ (au terms b))
def iO(terms:List Term)(class_:List Nat)(l:aG):Bool:=l.no&&(decide (l.atom.kind=1)&&dG terms class_ l.atom.A l.atom.B)
def iL{α:Type}(p:α→Bool)(l:List α):Option Nat:=(List.range l.length).find? fun i=>match l[i]? with|none=>false|some x=>p x
def iu(terms nums:List Term)(class_:List Nat)(ay:List Rat)(t:Term):Rat:=if a8 nums t<0 then whole (cl class_ (au terms t)) else ay.getD (au nums t) (whole 0)
def eQ(terms nums:List Term)(class_:List Nat)(ay:List Rat)(t:Term):Row:=⟨t.name,t.kids.map (iu terms nums class_ ay),iu terms nums class_ ay t⟩
def putRow(rows:List Row)(r:Row):List Row:=
 let lo:=rows.takeWhile fun x=>decide (bK x r<0)
 let hi:=rows.dropWhile fun x=>decide (bK x r<0)
 match hi with
 | []=>lo++[r]
 | x::xs=>if bK x r=0 then rows else lo++r::x::xs
def fS(terms nums:List Term)(class_:List Nat)(ay:List Rat):List Row:=terms.foldl (fun rows t=>putRow rows (eQ terms nums class_ ay t)) []
def cQ(s:bJ)(m:Model)(lits:List aG):Bool:=b9 s m&&lits.all fun l=>decide (fa s m l=some true)
structure vO where
 model:Model
 case:Case
 code:Int
def oY:Case:=.mk 0 0 uy [] ao ao []
def iD:Model:=⟨[]⟩
def yc:vO:=⟨iD,oY,2⟩
def Dn(w:iy)(r:vO):vO:=if r.code=1 then⟨iD,.mk 3 0 w [] ao ao [r.case],1⟩ else⟨r.model,oY,r.code⟩
def ob(run:List aG→vO)(a b:Term):List (List aG)→List Case→vO
 | [],out=>⟨iD,.mk 4 0 uy [] a b out,1⟩
 | l::ls,out=>if(run l).code=1 then ob run a b ls (out++[(run l).case]) else⟨(run l).model,oY,(run l).code⟩
def gg(s:bJ)(terms nums:List Term):Nat→List aG→vO
 | 0,_=>yc
 | f+1,lits=>
   let eqs:=aB lits
   let c:=closed terms eqs
   let Jx:=bf (cL nums lits)
   if 12<eqs.length then yc else
   match iL (iO terms c.1) lits with
   | some n=>⟨iD,.mk 1 n (iH terms c.2 (lits.getD n zK).atom.A (lits.getD n zK).atom.B) [] ao ao [],1⟩
   | none=>
     if Jx.code=1 then⟨iD,.mk 2 0 uy Jx.times ao ao [],1⟩ else
     if Jx.code≠0 then yc else
     match bp nums.length (fun i k=>!linked nums lits i k&&dG terms c.1 (nums.getD i ao) (nums.getD k ao)) with
     | some (i,k)=>Dn (iH terms c.2 (nums.getD i ao) (nums.getD k ao)) (gg s terms nums f (lits++[eO (nums.getD i ao) (nums.getD k ao)]))
     | none=>match bp nums.length (fun i k=>!linked nums lits i k&&(!cJ nums lits i k&& !cJ nums lits k i)) with
       | some (i,k)=>ob (gg s terms nums f) (nums.getD i ao) (nums.getD k ao) ((gu (nums.getD i ao) (nums.getD k ao)).map fun l=>lits++[l]) []
       | none=>if cQ s ⟨fS terms nums c.1 Jx.ay⟩ lits then⟨⟨fS terms nums c.1 Jx.ay⟩,oY,0⟩ else yc
def gU(s:bJ)(lits:List aG):vO:=if bO s lits then gg s (aA lits) (numsOf s lits) 13 lits else⟨iD,oY,3⟩
end Go.Mod
namespace Go.Mod
open Go.Eng
set_option maxRecDepth 100000
theorem fc{c:List Nat}{i:Nat}(h:i<c.length):cl c i=c[i]:=by rw[cl,List.getD_eq_getElem?_getD,List.getElem?_eq_getElem h];rfl
theorem yz{c:List Nat}{i:Nat}(h:i<c.length):cl c i∈c:=by rw[fc h];exact List.getElem_mem h
theorem On{c:List Nat}{i:Nat}(h:c.length≤i):cl c i=0:=by rw[cl,List.getD_eq_getElem?_getD,List.getElem?_eq_none h];rfl
theorem dH(c:List Nat)(a b:Nat):(dD c a b).length=c.length:=by simp[dD]
theorem yv{c:List Nat}{f:Nat→Nat}{i:Nat}(h:i<c.length):cl (c.map f) i=f (cl c i):=by
 rw[fc (by simpa using h),fc h,List.getElem_map]
theorem rR{c:List Nat}{a b i:Nat}(h:i<c.length):cl (dD c a b) i=if cl c i=max (cl c a) (cl c b) then min (cl c a) (cl c b) else cl c i:=yv h
theorem A8{c:List Nat}{a b i k:Nat}(hi:i<c.length)(hk:k<c.length):cl (dD c a b) i=cl (dD c a b) k↔(cl c i=cl c k∨(cl c i=cl c a∧cl c k=cl c b)∨(cl c i=cl c b∧cl c k=cl c a)):=by
 rw[rR hi,rR hk]
 split<;>split<;>omega
theorem LH{f:Nat→Nat}(hf:∀x,f x≤x):∀l:List Nat,(l.map f).sum≤l.sum
 | []=>Nat.le_refl _
 | x::l=>by
   have:=LH hf l
   have:=hf x
   simp only[List.map_cons,List.sum_cons]
   omega
theorem LC{f:Nat→Nat}(hf:∀x,f x≤x):∀{l:List Nat}{x:Nat},x∈l→f x<x→(l.map f).sum<l.sum
 | y::l,x,hx,h=>by
   simp only[List.map_cons,List.sum_cons]
   have h1:=LH hf l
   have h2:=hf y
   rcases List.mem_cons.1 hx with e|e
   ·subst e;omega
   ·have:=LC hf e h
    omega
theorem A5{c:List Nat}{a b:Nat}(ha:a<c.length)(hb:b<c.length)(h:cl c a≠cl c b):(dD c a b).sum<c.sum:=by
 refine LC (x:=max (cl c a) (cl c b)) (fun x=>?_) ?_ ?_
 ·split<;>omega
 ·rcases Nat.le_total (cl c a) (cl c b) with h1|h1
  ·rw[Nat.max_eq_right h1];exact yz hb
  ·rw[Nat.max_eq_left h1];exact yz ha
 ·rw[if_pos rfl];omega
theorem zk{s n:Nat}{p:Nat×Nat}:p∈dL s n↔p.1<p.2∧s≤p.2∧p.2<n:=by
 obtain⟨e,l⟩:=p
 simp only[dL,List.mem_flatMap,List.mem_map,List.mem_range'_1,Prod.mk.injEq]
 constructor
 ·rintro⟨l',h1,e',h2,rfl,rfl⟩;omega
 ·rintro⟨h1,h2,h3⟩
  exact⟨l,by omega,e,by omega,rfl,rfl⟩
theorem w9{l n:Nat}(h:l<n):dL l n=(List.range' 0 (l-0)).map (fun e=>(e,l))++dL (l+1) n:=by
 unfold dL
 rw[jh h]
 rfl
theorem zc{l n:Nat}(h:n≤l):dL l n=[]:=by
 unfold dL
 rw[j6 h]
 rfl
theorem lD{parts:List Term}{c:List Nat}{p:Nat×Nat}(h:fX parts c=some p):p.1<p.2∧p.2<parts.length∧cl c p.1≠cl c p.2∧alike parts c p.1 p.2=true:=by
 have h1:=List.find?_some h
 have h2:=zk.1 (List.mem_of_find?_eq_some h)
 simp only[mc,Bool.and_eq_true,decide_eq_true_eq] at h1
 exact⟨h2.1,h2.2.2,h1.1,h1.2⟩
theorem K2{x:Nat}:∀{l:List Nat},x∈l→x≤l.sum
 | y::l,h=>by
   simp only[List.sum_cons]
   rcases List.mem_cons.1 h with e|e
   ·omega
   ·have:=K2 e;omega
theorem BX{parts:List Term}{f:Nat}{c:List Nat}{steps:List Step}(h:fX parts c=none):fv parts f c steps=(c,steps):=by
 cases f with
 | zero=>rfl
 | succ f=>simp only[fv,h]
theorem BF{parts:List Term}{f:Nat}{c:List Nat}{steps:List Step}{p:Nat×Nat}(hs:c.sum≤f)(hc:c.length=parts.length)(h:fX parts c=some p) :
 ∃f',f=f'+1∧fv parts f c steps=fv parts f' (dD c p.1 p.2) (steps++[⟨p.1,p.2,-1⟩])∧(dD c p.1 p.2).sum≤f':=by
 obtain⟨h1,h2,h3,h4⟩:=lD h
 have hd:=A5 (c:=c) (a:=p.1) (b:=p.2) (by omega) (by omega) h3
 obtain⟨f',rfl⟩:∃f',f=f'+1:=⟨f-1,by omega⟩
 exact⟨f',rfl,by simp only[fv,h],by omega⟩
structure CE(parts:List Term)(eqs:List e6)(c:List Nat)(s:Step):Prop where
 a0:0≤s.A
 a1:s.A.toNat<parts.length
 b0:0≤s.B
 b1:s.B.toNat<parts.length
 ne:cl c s.A.toNat≠cl c s.B.toNat
 Rb:(s.given = -1∧alike parts c s.A.toNat s.B.toNat=true)∨(∃n:Nat,s.given=n∧∃e,eqs[n]?=some e∧s.A=au parts e.A∧s.B=au parts e.B)
def jJ(parts:List Term)(eqs:List e6)(steps:List Step):Prop:=∀k s,steps[k]?=some s→CE parts eqs (aw parts.length steps k) s
theorem lO{n k:Nat}{steps more:List Step}(h:k≤steps.length):aw n (steps++more) k=aw n steps k:=by
 rw[aw,aw,List.take_append_of_le_length h]
theorem fj(n:Nat)(steps:List Step)(k:Nat):(aw n steps k).length=n:=by
 unfold aw
 have:∀(l:List Step)(c:List Nat),(l.foldl (fun c s=>dD c s.A.toNat s.B.toNat) c).length=c.length:=by
  intro l
  induction l with
  | nil=>intro c;rfl
  | cons s l ih=>intro c;rw[List.foldl_cons,ih,dH]
 rw[this,List.length_range]
theorem ku{n k:Nat}{steps:List Step}{s:Step}(h:steps[k]?=some s):aw n steps (k+1)=dD (aw n steps k) s.A.toNat s.B.toNat:=by
 obtain⟨hk,rfl⟩:=List.getElem?_eq_some_iff.1 h
 rw[aw,List.take_add_one,List.getElem?_eq_getElem hk,List.foldl_append]
 rfl
theorem BE{parts:List Term}{eqs:List e6}{steps:List Step}{s:Step}(h:jJ parts eqs steps)(hs:CE parts eqs (aw parts.length steps steps.length) s):jJ parts eqs (steps++[s]):=by
 intro k t ht
 rcases Nat.lt_trichotomy k steps.length with h1|h1|h1
 ·rw[List.getElem?_append_left h1] at ht
  rw[lO (by omega)]
  exact h k t ht
 ·subst h1
  rw[List.getElem?_append_right (Nat.le_refl _)] at ht
  simp only[Nat.sub_self,List.getElem?_cons_zero,Option.some.injEq] at ht
  rw[lO (Nat.le_refl _),←ht]
  exact hs
 ·rw[List.getElem?_eq_none (by simp;omega)] at ht
  cases ht
theorem w5{n:Nat}{steps:List Step}{s:Step}:aw n (steps++[s]) (steps++[s]).length=dD (aw n steps steps.length) s.A.toNat s.B.toNat:=by
 rw[List.length_append,List.length_singleton,ku (s:=s) (by simp),lO (Nat.le_refl _)]
def Kept(parts:List Term)(eqs:List e6)(x:List Nat×List Step):Prop:=jJ parts eqs x.2∧x.1=aw parts.length x.2 x.2.length
theorem yU{parts:List Term}{eqs:List e6}{x:List Nat×List Step}(h:Kept parts eqs x):x.1.length=parts.length:=by rw[h.2,fj]
theorem Ag{parts:List Term}{eqs:List e6}{x:List Nat×List Step}{s:Step}(h:Kept parts eqs x)(hs:CE parts eqs x.1 s):Kept parts eqs (dD x.1 s.A.toNat s.B.toNat,x.2++[s]):=
 ⟨BE h.1 (h.2▸hs),by rw[w5,←h.2]⟩
theorem mF{parts:List Term}{all:List e6}(hin:∀e∈all,e.A∈parts∧e.B∈parts):∀(eqs:List e6)(n:Nat)(c:List Nat)(steps:List Step),all.drop n=eqs→Kept parts all (c,steps)→Kept parts all (dS parts n eqs c steps)
 | [],_,_,_,_,h=>h
 | e::es,n,c,steps,hd,h=>by
   have hn:all[n]?=some e:=by
    have:=congrArg (·[0]?) hd
    simpa using this
   have hd2:all.drop (n+1)=es:=by
    have:=congrArg List.tail hd
    simpa[List.tail_drop] using this
   obtain⟨hA,hB⟩:=hin e (List.mem_of_getElem? hn)
   rw[dS]
   split
   ·exact mF hin es (n+1) c steps hd2 h
   ·rename_i hne
    exact mF hin es (n+1) _ _ hd2 (Ag (s:=⟨au parts e.A,au parts e.B,n⟩) h ⟨Int.natCast_nonneg _,by rw[Int.toNat_natCast];exact ny hA,Int.natCast_nonneg _,by rw[Int.toNat_natCast];exact ny hB,by simpa using hne,.inr ⟨n,rfl,e,hn,rfl,rfl⟩⟩)
theorem r6{parts:List Term}{all:List e6}:∀(f:Nat)(c:List Nat)(steps:List Step),Kept parts all (c,steps)→Kept parts all (fv parts f c steps)
 | 0,_,_,h=>h
 | f+1,c,steps,h=>by
   rw[fv]
   split
   ·exact h
   ·rename_i p hp
    obtain⟨h1,h2,h3,h4⟩:=lD hp
    exact r6 f _ _ (Ag (s:=⟨p.1,p.2,-1⟩) h ⟨Int.natCast_nonneg _,by simp;omega,Int.natCast_nonneg _,by simpa using h2,by simpa using h3,.inl ⟨rfl,by simpa using h4⟩⟩)
theorem Fb{parts:List Term}{eqs:List e6}(hin:∀e∈eqs,e.A∈parts∧e.B∈parts):Kept parts eqs (given parts eqs):=
 mF hin eqs 0 _ _ rfl ⟨fun k s h=>by simp at h,rfl⟩
theorem jg{parts:List Term}{eqs:List e6}(hin:∀e∈eqs,e.A∈parts∧e.B∈parts):Kept parts eqs (closed parts eqs):=r6 _ _ _ (Fb hin)
theorem qP{parts:List Term}{eqs:List e6}{x:List Nat×List Step}(h:Kept parts eqs x):∀k,k≤x.2.length→(aw parts.length x.2 k).sum+k≤(List.range parts.length).sum:=by
 intro k
 induction k with
 | zero=>intro _;exact Nat.le_of_eq (by simp[aw])
 | succ k ih=>
   intro hk
   have hs:x.2[k]?=some x.2[k]:=List.getElem?_eq_getElem (by omega)
   have h1:=ih (by omega)
   have h2:=h.1 k _ hs
   have h3:=A5 (c:=aw parts.length x.2 k) (by rw[fj];exact h2.a1) (by rw[fj];exact h2.b1) h2.ne
   rw[ku hs]
   omega
end Go.Mod
namespace Go.Mod
open Go.Eng
set_option maxRecDepth 100000
def vA(steps:List Step)(k:Nat):Nat:=(fD steps k).A.toNat
def vB(steps:List Step)(k:Nat):Nat:=(fD steps k).B.toNat
def fk(steps:List Step)(e:Edge):Nat:=if e.back then vB steps e.step else vA steps e.step
def gJ(steps:List Step)(e:Edge):Nat:=if e.back then vA steps e.step else vB steps e.step
def mL(steps:List Step):Nat→List Edge→Nat→Prop
 | a,[],b=>a=b
 | a,e::es,b=>fk steps e=a∧mL steps (gJ steps e) es b
def ju(k:Nat)(es:List Edge):Prop:=∀e∈es,e.step<k
def dv(steps:List Step)(a:Nat)(es:List Edge):List Nat:=a::es.map (gJ steps)
theorem n6{steps:List Step}:∀{p q:List Edge}{a b:Nat},mL steps a (p++q) b↔∃m,mL steps a p m∧mL steps m q b
 | [],q,a,b=>by simp[mL]
 | e::p,q,a,b=>by
   simp only[List.cons_append,mL,n6 (p:=p)]
   constructor
   ·rintro⟨h1,m,h2,h3⟩;exact⟨m,⟨h1,h2⟩,h3⟩
   ·rintro⟨m,⟨h1,h2⟩,h3⟩;exact⟨h1,m,h2,h3⟩
theorem Dz{steps:List Step}:∀{p:List Edge}{a b:Nat},mL steps a p b→b∈dv steps a p
 | [],a,b,h=>by simp[mL] at h;simp[dv,h]
 | e::p,a,b,h=>by
   have:=Dz h.2
   simp only[dv,List.map_cons,List.mem_cons] at this⊢
   exact .inr this
section
variable{parts:List Term}{eqs:List e6}{steps:List Step}(hok:jJ parts eqs steps)
include hok
theorem pH{k:Nat}(h:k<steps.length):CE parts eqs (aw parts.length steps k) (fD steps k):=by
 have e:=List.getElem?_eq_getElem h
 have:=hok k _ e
 rw[fD,List.getD_eq_getElem?_getD,e]
 exact this
theorem DG{k:Nat}(h:k<steps.length):vA steps k<parts.length:=(pH hok h).a1
theorem Ew{k:Nat}(h:k<steps.length):vB steps k<parts.length:=(pH hok h).b1
omit hok in
theorem Og{k:Nat}(h:k<steps.length):aw parts.length steps (k+1)=dD (aw parts.length steps k) (vA steps k) (vB steps k):=by
 rw[ku (List.getElem?_eq_getElem h),vA,vB,fD,List.getD_eq_getElem?_getD,List.getElem?_eq_getElem h]
 rfl
omit hok in
theorem Ms{k i j:Nat}(h:k<steps.length)(hi:i<parts.length)(hj:j<parts.length):cl (aw parts.length steps (k+1)) i=cl (aw parts.length steps (k+1)) j ↔
 (cl (aw parts.length steps k) i=cl (aw parts.length steps k) j∨(cl (aw parts.length steps k) i=cl (aw parts.length steps k) (vA steps k)∧cl (aw parts.length steps k) j=cl (aw parts.length steps k) (vB steps k))∨(cl (aw parts.length steps k) i=cl (aw parts.length steps k) (vB steps k)∧cl (aw parts.length steps k) j=cl (aw parts.length steps k) (vA steps k))):=by
 rw[Og h]
 exact A8 (by rw[fj];exact hi) (by rw[fj];exact hj)
theorem An:∀{k:Nat},k≤steps.length→∀{j:Nat},j<k→cl (aw parts.length steps k) (vA steps j)=cl (aw parts.length steps k) (vB steps j)
 | 0,_,j,h=>by omega
 | k+1,hk,j,h=>by
   rw[Ms (by omega) (DG hok (by omega)) (Ew hok (by omega))]
   rcases Nat.lt_or_ge j k with h1|h1
   ·exact .inl (An (by omega) h1)
   ·obtain rfl:j=k:=by omega
    exact .inr (.inl ⟨rfl,rfl⟩)
theorem wL{e:Edge}(h:e.step<steps.length):gJ steps e<parts.length:=by
 unfold gJ
 split
 ·exact DG hok h
 ·exact Ew hok h
theorem AU{k:Nat}(hk:k≤steps.length){e:Edge}(h:e.step<k):cl (aw parts.length steps k) (fk steps e)=cl (aw parts.length steps k) (gJ steps e):=by
 have:=An hok hk h
 unfold fk gJ
 cases e.back
 ·simpa using this
 ·simpa using this.symm
theorem pF{k:Nat}(hk:k≤steps.length):∀{es:List Edge}{a b:Nat},ju k es→mL steps a es b→cl (aw parts.length steps k) a=cl (aw parts.length steps k) b
 | [],a,b,_,h=>by simp only[mL] at h;rw[h]
 | e::es,a,b,hw,h=>by
   rw[←h.1,AU hok hk (hw e (by simp))]
   exact pF hk (fun x hx=>hw x (List.mem_cons_of_mem _ hx)) h.2
theorem BU{k:Nat}(hk:k≤steps.length):∀{es:List Edge}{a b:Nat},ju k es→mL steps a es b→a<parts.length→b<parts.length
 | [],a,b,_,h,ha=>by simp only[mL] at h;omega
 | e::es,a,b,hw,h,ha=>BU hk (fun x hx=>hw x (List.mem_cons_of_mem _ hx)) h.2 (wL hok (by have:=hw e (by simp);omega))
theorem kI{k:Nat}(hk:k≤steps.length):∀{es:List Edge}{a b:Nat},ju k es→mL steps a es b→∀v∈dv steps a es,cl (aw parts.length steps k) v=cl (aw parts.length steps k) a
 | [],a,b,_,h,v,hv=>by simp[dv] at hv;rw[hv]
 | e::es,a,b,hw,h,v,hv=>by
   simp only[dv,List.map_cons,List.mem_cons] at hv
   rcases hv with e1|hv
   ·rw[e1]
   ·rw[kI hk (fun x hx=>hw x (List.mem_cons_of_mem _ hx)) h.2 v (by simpa[dv] using hv),←h.1]
    exact(AU hok hk (hw e (by simp))).symm
theorem mH:∀{k:Nat},k≤steps.length→∀{es:List Edge}{a b:Nat},a<parts.length→ju k es→mL steps a es b→(dv steps a es).Nodup→es=iq parts.length steps k a b
 | 0,_,es,a,b,_,hw,h,_=>by
   cases es with
   | nil=>rfl
   | cons e es=>exact absurd (hw e (by simp)) (by omega)
 | k+1,hk,es,a,b,ha,hw,h,hn=>by
   have hk':k≤steps.length:=by omega
   have hb:=BU hok hk hw h ha
   rcases Classical.em (ju k es) with hin|hin
   ·have hs:=pF hok hk' hin h
    rw[iq,if_pos hs]
    exact mH hk' ha hin h hn
   ·-- the first edge of the last step
    have hsplit:∃p e q,es=p++e::q∧ju k p∧e.step=k:=by
     clear h hn hb
     induction es with
     | nil=>exact absurd (fun e he=>by simp at he) hin
     | cons e es ih=>
       have he:=hw e (by simp)
       rcases Nat.lt_or_ge e.step k with h1|h1
       ·obtain⟨p,x,q,e1,e2,e3⟩:=ih (fun x hx=>hw x (List.mem_cons_of_mem _ hx)) (fun hin2=>hin fun x hx=>by
         rcases List.mem_cons.1 hx with e4|e4
         ·rw[e4];exact h1
         ·exact hin2 x e4)
        refine⟨e::p,x,q,by rw[e1];rfl,fun y hy=>?_,e3⟩
        rcases List.mem_cons.1 hy with e4|e4
        ·rw[e4];exact h1
        ·exact e2 y e4
       ·exact⟨[],e,es,rfl,fun x hx=>by simp at hx,by omega⟩
    obtain⟨p,e,q,rfl,hp,hek⟩:=hsplit
    obtain⟨m,w1,w2⟩:=n6.1 h
    obtain⟨w3,w4⟩:=w2
    subst w3
    have hve:dv steps a (p++e::q)=dv steps a p++dv steps (gJ steps e) q:=by simp[dv]
    rw[hve] at hn
    obtain⟨n1,n2,n3⟩:=List.nodup_append.1 hn
    have hq:ju k q:=by
     intro x hx
     have hx1:=hw x (by simp[hx])
     rcases Nat.lt_or_ge x.step k with h1|h1
     ·exact h1
     ·exfalso
      have hxk:x.step=k:=by omega
      obtain⟨q1,q2,rfl⟩:=List.append_of_mem hx
      obtain⟨m2,u1,u2⟩:=n6.1 w4
      obtain⟨u3,u4⟩:=u2
      have hs1:fk steps e∈dv steps a p:=Dz w1
      have hne:gJ steps x≠gJ steps e:=by
       intro he
       have:(gJ steps e::(q1.map (gJ steps)++gJ steps x::q2.map (gJ steps))).Nodup:=by simpa[dv] using n2
       have:=(List.nodup_cons.1 this).1
       exact this (by simp[he])
      have hne2:gJ steps x≠fk steps e:=by
       intro he
       exact n3 _ hs1 _ (by simp[dv]:gJ steps x∈dv steps (gJ steps e) (q1++x::q2)) he.symm
      unfold gJ at hne hne2
      unfold fk at hne2
      rw[hxk,hek] at hne hne2
      cases h5:x.back<;>cases h6:e.back<;>simp[h5,h6] at hne hne2
    have hlt:fk steps e<parts.length:=BU hok hk' hp w1 ha
    have hlt2:gJ steps e<parts.length:=wL hok (by omega)
    have hok2:=(pH hok (k:=k) (by omega)).ne
    have i1:=mH hk' ha hp w1 n1
    have i2:=mH hk' hlt2 hq w4 n2
    have s1:=pF hok hk' hp w1
    have s2:=pF hok hk' hq w4
    rw[iq]
    unfold fk at i1 s1
    unfold gJ at i2 s2
    rw[hek] at i1 i2 s1 s2
    obtain⟨st,bk⟩:=e
    simp only at hek
    subst hek
    cases bk
    ·simp only[Bool.false_eq_true,if_false,vA,vB] at i1 i2 s1 s2
     rw[if_neg (by rw[s1,←s2];exact hok2),if_pos s1,←i1,←i2]
    ·simp only[if_true,vA,vB] at i1 i2 s1 s2
     rw[if_neg (by rw[s1,←s2];exact fun h=>hok2 h.symm),if_neg (by rw[s1];exact fun h=>hok2 h.symm),←i1,←i2]
theorem rD:∀{k:Nat},k≤steps.length→∀{a b:Nat},a<parts.length→b<parts.length→cl (aw parts.length steps k) a=cl (aw parts.length steps k) b →
 ju k (iq parts.length steps k a b)∧mL steps a (iq parts.length steps k a b) b∧(dv steps a (iq parts.length steps k a b)).Nodup
 | 0,_,a,b,ha,hb,h=>by
   have e:∀i,i<parts.length→cl (aw parts.length steps 0) i=i:=fun i hi=>by
    rw[fc (by rw[fj];exact hi)]
    simp[aw]
   rw[e a ha,e b hb] at h
   subst h
   exact⟨fun x hx=>by simp[iq] at hx,rfl,by simp[iq,dv]⟩
 | k+1,hk,a,b,ha,hb,h=>by
   have hk':k≤steps.length:=by omega
   have up:∀{es:List Edge},ju k es→ju (k+1) es:=fun hw e he=>Nat.lt_succ_of_lt (hw e he)
   rw[Ms (by omega) ha hb] at h
   have hA:=DG hok (k:=k) (by omega)
   have hB:=Ew hok (k:=k) (by omega)
   have hne:=(pH hok (k:=k) (by omega)).ne
   rw[iq]
   rcases Classical.em (cl (aw parts.length steps k) a=cl (aw parts.length steps k) b) with h1|h1
   ·rw[if_pos h1]
    obtain⟨i1,i2,i3⟩:=rD hk' ha hb h1
    exact⟨up i1,i2,i3⟩
   ·rw[if_neg h1]
    rcases h with h|⟨h,h'⟩|⟨h,h'⟩
    ·exact(h1 h).elim
    ·rw[if_pos (show _=cl _ (fD steps k).A.toNat from h)]
     obtain⟨i1,i2,i3⟩:=rD hk' ha hA h
     obtain⟨j1,j2,j3⟩:=rD hk' hB hb h'.symm
     refine⟨?_,n6.2 ⟨_,i2,rfl,j2⟩,?_⟩
     ·intro x hx
      rcases List.mem_append.1 hx with e|e
      ·exact up i1 x e
      ·rcases List.mem_cons.1 e with e|e
       ·rw[e];exact Nat.lt_succ_self k
       ·exact up j1 x e
     ·have hve:dv steps a (iq parts.length steps k a (vA steps k)++⟨k,false⟩::iq parts.length steps k (vB steps k) b)=dv steps a (iq parts.length steps k a (vA steps k))++dv steps (vB steps k) (iq parts.length steps k (vB steps k) b):=by simp[dv,gJ]
      refine hve▸List.nodup_append.2 ⟨i3,j3,fun x hx y hy e=>?_⟩
      have s1:=kI hok hk' i1 i2 x hx
      have s2:=kI hok hk' j1 j2 y hy
      rw[←e,s1] at s2
      exact hne (h.symm.trans s2)
    ·have h2:¬cl (aw parts.length steps k) a=cl (aw parts.length steps k) (fD steps k).A.toNat:=fun h3=>hne (h3.symm.trans h)
     rw[if_neg h2]
     obtain⟨i1,i2,i3⟩:=rD hk' ha hB h
     obtain⟨j1,j2,j3⟩:=rD hk' hA hb h'.symm
     refine⟨?_,n6.2 ⟨_,i2,rfl,j2⟩,?_⟩
     ·intro x hx
      rcases List.mem_append.1 hx with e|e
      ·exact up i1 x e
      ·rcases List.mem_cons.1 e with e|e
       ·rw[e];exact Nat.lt_succ_self k
       ·exact up j1 x e
     ·have hve:dv steps a (iq parts.length steps k a (vB steps k)++⟨k,true⟩::iq parts.length steps k (vA steps k) b)=dv steps a (iq parts.length steps k a (vB steps k))++dv steps (vA steps k) (iq parts.length steps k (vA steps k) b):=by simp[dv,gJ]
      refine hve▸List.nodup_append.2 ⟨i3,j3,fun x hx y hy e=>?_⟩
      have s1:=kI hok hk' i1 i2 x hx
      have s2:=kI hok hk' j1 j2 y hy
      rw[←e,s1] at s2
      exact h2 s2
end
end Go.Mod
namespace Go.Mod
open Go.Eng
set_option maxRecDepth 100000
def c9(disc:List (Nat×Edge)):List Nat:=disc.map Prod.fst
structure Pv(N:Nat)(steps:List Step)(n from_:Nat)(disc:List (Nat×Edge)):Prop where
 head:(c9 disc)[0]?=some from_
 Mw:(c9 disc).Nodup
 lt:∀v∈c9 disc,v<N
 Rx:∀(j:Nat)(v:Nat)(e:Edge),disc[j]?=some (v,e)→0<j→e.step<n∧gJ steps e=v∧∃i,i<j∧(c9 disc)[i]?=some (fk steps e)
def Seen(steps:List Step)(n:Nat)(disc:List (Nat×Edge))(v:Nat):Prop:=∀k,k<n→(vA steps k=v→vB steps k∈c9 disc)∧(vB steps k=v→vA steps k∈c9 disc)
def mE(steps:List Step)(n:Nat)(disc:List (Nat×Edge))(i:Nat):Prop:=∀j v,j<i→(c9 disc)[j]?=some v→Seen steps n disc v
theorem o9{N:Nat}:∀{l:List Nat},l.Nodup→(∀v∈l,v<N)→l.length≤N:=by
 intro l h1 h2
 have:=(List.nodup_range (n:=N))
 have hs:l.length≤(List.range N).length:=List.Nodup.length_le_of_subset h1 fun v hv=>List.mem_range.2 (h2 v hv)
 simpa using hs
theorem mn(disc:List (Nat×Edge)):(c9 disc).length=disc.length:=by simp[c9]
theorem dA(a b:List (Nat×Edge)):c9 (a++b)=c9 a++c9 b:=by simp[c9]
theorem Hw{N:Nat}{steps:List Step}{n f:Nat}{disc:List (Nat×Edge)}(h:Pv N steps n f disc):disc.length≤N:=by
 rw[←mn]
 exact o9 h.Mw h.lt
theorem IH{N:Nat}{steps:List Step}{n f:Nat}(hf:f<N)(e:Edge):Pv N steps n f [(f,e)]:=
 ⟨rfl,by simp[c9],fun v hv=>by simp[c9] at hv;omega,fun j v e h hj=>by
  cases j with
  | zero=>omega
  | succ j=>simp at h⟩
theorem Hf{N:Nat}{steps:List Step}{n f:Nat}{disc:List (Nat×Edge)}(h:Pv N steps n f disc){e:Edge}{i v:Nat}(he:e.step<n)(hi:(c9 disc)[i]?=some v)(hs:fk steps e=v)(hn:gJ steps e∉c9 disc)(hlt:gJ steps e<N) :
 Pv N steps n f (disc++[(gJ steps e,e)]):=by
 have hl:=mn disc
 have hi2:i<disc.length:=by rw[←hl];exact(List.getElem?_eq_some_iff.1 hi).1
 refine⟨?_,?_,?_,?_⟩
 ·rw[dA,List.getElem?_append_left (by omega)];exact h.head
 ·rw[dA]
  refine List.nodup_append.2 ⟨h.Mw,by simp[c9],fun x hx y hy e1=>?_⟩
  simp only[c9,List.map_cons,List.map_nil,List.mem_cons,List.not_mem_nil,or_false] at hy
  rw[e1,hy] at hx
  exact hn hx
 ·intro x hx
  rw[dA] at hx
  rcases List.mem_append.1 hx with hx|hx
  ·exact h.lt x hx
  ·simp only[c9,List.map_cons,List.map_nil,List.mem_cons,List.not_mem_nil,or_false] at hx
   omega
 ·intro j w x hx hj
  rcases Nat.lt_trichotomy j disc.length with h1|h1|h1
  ·rw[List.getElem?_append_left h1] at hx
   obtain⟨a1,a2,k,a3,a4⟩:=h.Rx j w x hx hj
   exact⟨a1,a2,k,a3,by rw[dA,List.getElem?_append_left (by omega)];exact a4⟩
  ·subst h1
   rw[List.getElem?_append_right (Nat.le_refl _)] at hx
   simp only[Nat.sub_self,List.getElem?_cons_zero,Option.some.injEq,Prod.mk.injEq] at hx
   obtain⟨rfl,rfl⟩:=hx
   exact⟨he,rfl,i,hi2,by rw[dA,List.getElem?_append_left (by omega),hi,hs]⟩
  ·rw[List.getElem?_eq_none (by simp;omega)] at hx
   cases hx
theorem AX{steps:List Step}{n:Nat}{a b:List (Nat×Edge)}{v:Nat}(h:Seen steps n a v):Seen steps n (a++b) v:=fun k hk=>by
 rw[dA]
 exact⟨fun e=>List.mem_append_left _ ((h k hk).1 e),fun e=>List.mem_append_left _ ((h k hk).2 e)⟩
theorem sG{steps:List Step}{n:Nat}{a b:List (Nat×Edge)}{i:Nat}(hi:i≤a.length)(h:mE steps n a i):mE steps n (a++b) i:=fun j v hj hv=>by
 rw[dA,List.getElem?_append_left (by rw[mn];omega)] at hv
 exact AX (h j v hj hv)
theorem BO{steps:List Step}{n:Nat}{disc:List (Nat×Edge)}{i v:Nat}(h:mE steps n disc i)(hv:(c9 disc)[i]?=some v)(hs:Seen steps n disc v):mE steps n disc (i+1):=fun j w hj hw=>by
 rcases Nat.lt_or_ge j i with h1|h1
 ·exact h j w h1 hw
 ·obtain rfl:j=i:=by omega
  rw[hv] at hw
  obtain rfl:=Option.some.inj hw
  exact hs
theorem rU{steps:List Step}{n:Nat}{disc:List (Nat×Edge)}(h:mE steps n disc disc.length):∀{es:List Edge}{a b:Nat},ju n es→mL steps a es b→a∈c9 disc→b∈c9 disc
 | [],a,b,_,hw,ha=>by simp only[mL] at hw;rw[←hw];exact ha
 | e::es,a,b,hi,hw,ha=>by
   obtain⟨j,hj,hj2⟩:=List.mem_iff_getElem.1 ha
   have hs:=h j a (by rw[←mn];exact hj) (by rw[List.getElem?_eq_getElem hj,hj2])
   have he:=hi e (by simp)
   refine rU h (fun x hx=>hi x (List.mem_cons_of_mem _ hx)) hw.2 ?_
   have h1:=hw.1
   unfold fk at h1
   unfold gJ
   cases hb:e.back
   ·rw[hb] at h1
    simp only[Bool.false_eq_true,if_false] at h1⊢
    exact(hs e.step he).1 h1
   ·rw[hb] at h1
    simp only[if_true] at h1⊢
    exact(hs e.step he).2 h1
structure LO(steps:List Step)(n to:Nat)(disc:List (Nat×Edge))(j t:Nat)(out:List Edge):Prop where
 at_:(c9 disc)[j]?=some t
 Rz:ju n out.reverse
 walk:mL steps t out.reverse to
 Mw:(dv steps t out.reverse).Nodup
 Jx:∀w∈out.reverse.map (gJ steps),∃i,j<i∧(c9 disc)[i]?=some w
theorem FA{steps:List Step}{n to:Nat}{disc:List (Nat×Edge)}{j:Nat}(h:(c9 disc)[j]?=some to):LO steps n to disc j to []:=
 ⟨h,fun e he=>by simp at he,rfl,by simp[dv],fun w hw=>by simp at hw⟩
theorem JS{l:List Nat}(h:l.Nodup){i j v:Nat}(hi:l[i]?=some v)(hj:l[j]?=some v):i=j:=by
 obtain⟨h1,h2⟩:=List.getElem?_eq_some_iff.1 hi
 obtain⟨h3,h4⟩:=List.getElem?_eq_some_iff.1 hj
 exact(List.getElem_inj h).1 (h2.trans h4.symm)
theorem IQ{N:Nat}{steps:List Step}{n f to:Nat}{disc:List (Nat×Edge)}{j t:Nat}{out:List Edge}{e:Edge}(hm:Pv N steps n f disc)(h:LO steps n to disc j t out)(he:disc[j]?=some (t,e))(hj:0<j) :
 ∃i,i<j∧LO steps n to disc i (fk steps e) (out++[e]):=by
 obtain⟨h1,h2,i,h3,h4⟩:=hm.Rx j t e he hj
 have Jx:∀w∈(out++[e]).reverse.map (gJ steps),∃k,i<k∧(c9 disc)[k]?=some w:=by
  intro w hw
  simp only[List.reverse_append,List.reverse_cons,List.reverse_nil,List.nil_append,List.cons_append,List.map_cons,List.mem_cons] at hw
  rcases hw with e1|hw
  ·exact⟨j,h3,by rw[e1,h2];exact h.at_⟩
  ·obtain⟨k,k1,k2⟩:=h.Jx w hw
   exact⟨k,by omega,k2⟩
 refine⟨i,h3,h4,?_,?_,?_,Jx⟩
 ·intro x hx
  simp only[List.reverse_append,List.reverse_cons,List.reverse_nil,List.nil_append,List.cons_append,List.mem_cons] at hx
  rcases hx with e1|hx
  ·rw[e1];exact h1
  ·exact h.Rz x hx
 ·simp only[List.reverse_append,List.reverse_cons,List.reverse_nil,List.nil_append,List.cons_append,mL,true_and]
  rw[h2]
  exact h.walk
 ·refine List.nodup_cons.2 ⟨fun hmem=>?_,?_⟩
  ·obtain⟨k,k1,k2⟩:=Jx _ hmem
   have:=JS hm.Mw h4 k2
   omega
  ·have:=h.Mw
   simp only[List.reverse_append,List.reverse_cons,List.reverse_nil,List.nil_append,List.cons_append,List.map_cons]
   rw[h2]
   exact this
theorem Lp{parts:List Term}{eqs:List e6}{steps:List Step}{n f to:Nat}{disc:List (Nat×Edge)}{j:Nat}{out:List Edge}(hok:jJ parts eqs steps)(hn:n≤steps.length)(hf:f<parts.length)(h:LO steps n to disc j f out):out.reverse=iq parts.length steps n f to:=
 mH hok hn hf h.Rz h.walk h.Mw
end Go.Mod
namespace Go.Mod
open Go.Eng
set_option maxRecDepth 100000
theorem jW{α:Type}{l:List α}{i:Nat}{d:α}(h:i<l.length):l.getD i d∈l:=by
 rw[List.getD_eq_getElem?_getD,List.getElem?_eq_getElem h]
 exact List.getElem_mem h
theorem nv{α:Type}{l:List α}{i:Nat}{d:α}(h:i<l.length):l.getD i d=l[i]:=by
 rw[List.getD_eq_getElem?_getD,List.getElem?_eq_getElem h]
 rfl
structure DZ(n:Nat)(r:bB):Prop where
 kM:c5 r.kM=true
 len:r.fB.length=n
 bd:∀u∈r.fB,0≤u∧u≤1000000
def GN(n:Nat)(rows:List bB):Prop:=rows.length≤200∧∀r∈rows,DZ n r
theorem DZ.NM{n:Nat}{r:bB}(h:DZ n r)(v:Nat):-1000000≤a7 r v∧a7 r v≤1000000:=by
 obtain⟨h1,h2,_⟩:=fN.1 h.kM
 unfold a7
 rcases Nat.lt_or_ge v r.kM.aq.length with h3|h3
 ·exact h2 _ (jW h3)
 ·rw[List.getD_eq_getElem?_getD,List.getElem?_eq_none h3]
  exact⟨by decide,by decide⟩
theorem I9(n i:Nat):(nK n i).length=n:=by simp[nK]
theorem L2{n i:Nat}:∀u∈nK n i,0≤u∧u≤1000000:=by
 intro u hu
 rcases List.mem_or_eq_of_mem_set hu with h|h
 ·rw[(List.mem_replicate.1 h).2];omega
 ·rw[h];omega
theorem BM(ls:List fq):(aR ls).length=ls.length:=by simp[aR]
theorem Df{ls:List fq}(h:dQ ls=true):GN ls.length (aR ls):=by
 simp only[dQ,Bool.and_eq_true,decide_eq_true_eq,List.all_eq_true] at h
 refine⟨by rw[BM];omega,fun r hr=>?_⟩
 simp only[aR,List.mem_map,List.mem_range] at hr
 obtain⟨i,hi,rfl⟩:=hr
 exact⟨h.2 _ (jW hi),I9 _ _,L2⟩
theorem HK{n:Nat}{a b:bB}{v:Nat}(ha:DZ n a)(hb:DZ n b)(h1:0<a7 a v)(h2:a7 b v<0) :
 (1≤sU a b v∧sU a b v≤1000000)∧(1≤ot a b v∧ot a b v≤1000000)∧(1≤ov a b v∧ov a b v≤1000000):=by
 have ca:=ha.NM v
 have cb:=hb.NM v
 have key:∀{x y:Int},0<x→0<y→x≤1000000→(1≤(Int.gcd x y:Int)∧(Int.gcd x y:Int)≤x)∧(1≤x.tdiv (Int.gcd x y)∧x.tdiv (Int.gcd x y)≤x):=by
  intro x y hx hy hm
  have g1:0<Int.gcd x y:=Int.gcd_pos_of_ne_zero_left _ (by omega)
  have g2:(Int.gcd x y:Int)∣x:=Int.gcd_dvd_left ..
  have g3:(Int.gcd x y:Int)≤x:=Int.le_of_dvd hx g2
  refine⟨⟨by omega,g3⟩,?_,?_⟩
  ·rw[Int.tdiv_eq_ediv_of_nonneg (by omega)]
   exact Int.le_ediv_of_mul_le (by omega) (by omega)
  ·rw[Int.tdiv_eq_ediv_of_nonneg (by omega)]
   exact Int.ediv_le_self _ (by omega)
 have k1:=key h1 (y:=-(a7 b v)) (by omega) ca.2
 have k2:=key (x:=-(a7 b v)) (y:=a7 a v) (by omega) h1 (by omega)
 rw[Int.gcd_comm] at k2
 unfold ot ov sU
 omega
theorem H6:∀{m n:Int}{as bs:List Int},(0≤m∧m≤1000000)→(0≤n∧n≤1000000)→(∀u∈as,0≤u∧u≤1000000)→(∀u∈bs,0≤u∧u≤1000000)→∀u∈comb m n as bs,0≤u∧u≤2000000000000
 | _,_,[],_,_,_,_,_,u,hu=>by simp[comb] at hu
 | _,_,_::_,[],_,_,_,_,u,hu=>by simp[comb] at hu
 | m,n,a::as,b::bs,hm,hn,h1,h2,u,hu=>by
   simp only[comb,List.mem_cons] at hu
   rcases hu with e|hu
   ·have ha:=h1 a (by simp)
    have hb:=h2 b (by simp)
    have p1:0≤m*a:=Int.mul_nonneg hm.1 ha.1
    have p2:0≤n*b:=Int.mul_nonneg hn.1 hb.1
    have p3:=(cH hm.1 hm.2 (b:=a) ⟨by omega,ha.2⟩).2
    have p4:=(cH hn.1 hn.2 (b:=b) ⟨by omega,hb.2⟩).2
    rw[e];omega
   ·exact H6 hm hn (fun x hx=>h1 x (List.mem_cons_of_mem _ hx)) (fun x hx=>h2 x (List.mem_cons_of_mem _ hx)) u hu
theorem Iy{a b:fq}{m n:Int}(h:(cR a m b n).2=true):c5 (cR a m b n).1=true:=by
 unfold cR kW at h⊢
 split
 ·rename_i h1
  rw[if_pos h1] at h
  split
  ·rename_i h2;exact h2
  ·rename_i h2;rw[if_neg h2] at h;cases h
 ·rename_i h1;rw[if_neg h1] at h;cases h
theorem LU{n:Nat}{a b:bB}{v:Nat}(ha:DZ n a)(hb:DZ n b)(h1:0<a7 a v)(h2:a7 b v<0)(h:tF a b v=true):DZ n (EC a b v):=by
 simp only[tF,Bool.and_eq_true,List.all_eq_true,decide_eq_true_eq] at h
 obtain⟨_,hp,hq⟩:=HK ha hb h1 h2
 refine⟨Iy h.1,?_,fun u hu=>⟨?_,h.2 u hu⟩⟩
 ·show(comb _ _ _ _).length=n
  rw[jc (by rw[ha.len,hb.len]),ha.len]
 ·exact(H6 ⟨by omega,hq.2⟩ ⟨by omega,hp.2⟩ ha.bd hb.bd u hu).1
theorem Fe{a:bB}{v:Nat}{rows:List bB}{p:bB×bB}(h:p∈nz a v rows):p.1=a∧p.2∈rows∧0<a7 p.1 v∧a7 p.2 v<0:=by
 simp only[nz,List.mem_filterMap] at h
 obtain⟨b,hb,e⟩:=h
 split at e
 ·rename_i hc
  simp only[Option.some.injEq] at e
  rw[←e]
  exact⟨rfl,hb,hc.1,hc.2⟩
 ·cases e
theorem uL{n v:Nat}:∀{ps:List (bB×bB)}{out r:List bB},(∀p∈ps,DZ n p.1∧DZ n p.2∧0<a7 p.1 v∧a7 p.2 v<0)→GN n out→ig v ps out=some r→GN n r
 | [],out,r,_,ho,h=>by
   simp only[ig,Option.some.injEq] at h
   rw[←h];exact ho
 | (a,b)::ps,out,r,hp,ho,h=>by
   rw[ig] at h
   split at h
   ·rename_i hc
    obtain⟨g1,g2,g3,g4⟩:=hp (a,b) (by simp)
    refine uL (fun p hq=>hp p (List.mem_cons_of_mem _ hq)) ⟨by simp;omega,fun x hx=>?_⟩ h
    rcases List.mem_append.1 hx with e|e
    ·exact ho.2 x e
    ·simp only[List.mem_cons,List.not_mem_nil,or_false] at e
     rw[e]
     exact LU g1 g2 g3 g4 hc.1
   ·cases h
theorem Jq{n v:Nat}{all rows:List bB}(h1:∀r∈all,DZ n r)(h2:∀r∈rows,DZ n r):∀p∈mX all rows v,DZ n p.1∧DZ n p.2∧0<a7 p.1 v∧a7 p.2 v<0:=by
 intro p hp
 simp only[mX,List.mem_flatMap] at hp
 obtain⟨a,ha,hb⟩:=hp
 obtain⟨e1,e2,e3,e4⟩:=Fe hb
 exact⟨e1▸h2 a ha,h1 _ e2,e3,e4⟩
theorem gh{n v:Nat}{rows r:List bB}(h:GN n rows)(hr:fw rows v=some r):GN n r:=
 uL (Jq h.2 h.2) ⟨Nat.le_trans (List.length_filter_le _ _) h.1,fun x hx=>h.2 x (List.mem_filter.1 hx).1⟩ hr
theorem C5{a:bB}{v j:Nat}{rows:List bB}(h:j<rows.length):nz a v (rows.drop j)=(if 0<a7 a v∧a7 rows[j] v<0 then [(a,rows[j])] else [])++nz a v (rows.drop (j+1)):=by
 unfold nz
 rw[List.drop_eq_getElem_cons h,List.filterMap_cons]
 split<;>simp_all
theorem Eo{v i:Nat}{all rows:List bB}(h:i<rows.length):mX all (rows.drop i) v=nz rows[i] v all++mX all (rows.drop (i+1)) v:=by
 unfold mX
 rw[List.drop_eq_getElem_cons h,List.flatMap_cons]
theorem DY{α:Type}{p:α→Bool}{l:List α}{i:Nat}(h:i<l.length):(l.take (i+1)).filter p=(l.take i).filter p++(if p l[i] then [l[i]] else []):=by
 rw[List.take_add_one,List.getElem?_eq_getElem h,List.filter_append]
 congr 1
 simp only[Option.toList_some,List.filter_cons,List.filter_nil]
theorem Gd(xs:List Rat)(sum:Rat):mR [] xs sum=some sum:=by cases xs<;>rfl
theorem FL(v i:Nat)(xs:List Rat)(sum:Rat):lP v i [] xs sum=some sum:=by cases xs<;>rfl
theorem DI{v i:Nat}{cs:List Int}{xs:List Rat}(h:i<cs.length)(h':i<xs.length)(sum:Rat):lP v i (cs.drop i) (xs.drop i) sum=if i=v then lP v (i+1) (cs.drop (i+1)) (xs.drop (i+1)) sum else if(plus sum (-cs[i]) xs[i]).2 then lP v (i+1) (cs.drop (i+1)) (xs.drop (i+1)) (plus sum (-cs[i]) xs[i]).1 else none:=by
 rw[List.drop_eq_getElem_cons h,List.drop_eq_getElem_cons h',lP]
theorem DK{i:Nat}{cs:List Int}{xs:List Rat}(h:i<cs.length)(h':i<xs.length)(sum:Rat):mR (cs.drop i) (xs.drop i) sum=if(plus sum cs[i] xs[i]).2 then mR (cs.drop (i+1)) (xs.drop (i+1)) (plus sum cs[i] xs[i]).1 else none:=by
 rw[List.drop_eq_getElem_cons h,List.drop_eq_getElem_cons h',mR]
theorem D3{v i:Nat}{ay:List Rat}{rows:List bB}(h:i<rows.length)(lo hi:Option Rat):jy v ay (rows.drop i) lo hi=if a7 rows[i] v=0 then jy v ay (rows.drop (i+1)) lo hi else match gV rows[i].kM v ay with
 | none=>none
 | some b=>if 0<a7 rows[i] v then jy v ay (rows.drop (i+1)) lo (if lower b hi then some b else hi) else jy v ay (rows.drop (i+1)) (if upper b lo then some b else lo) hi:=by
 rw[List.drop_eq_getElem_cons h,jy]
 try rfl
theorem u6{n d:Int}(h:(gq n d).2=false):(gq n d).1=ja:=by
 unfold gq at h⊢
 split
 ·rfl
 ·rename_i h0
  rw[if_neg h0] at h
  simp only at h⊢
  generalize (⟨_,_⟩:Rat)=x at h⊢
  cases hx:bl x
  ·simp
  ·simp[hx] at h
theorem uJ{a b:Rat}(h:(fu a b).2=false):(fu a b).1=ja:=by
 unfold fu at h⊢
 split
 ·rename_i h0;rw[if_pos h0] at h;exact u6 h
 ·rfl
theorem uP{a b:Rat}(h:(eX a b).2=false):(eX a b).1=ja:=by
 unfold eX at h⊢
 split
 ·rename_i h0;rw[if_pos h0] at h;exact u6 h
 ·rfl
theorem C1{a b:Rat}(h:(oM a b).2=false):(oM a b).1=ja:=by
 unfold oM at h⊢
 split
 ·rename_i h0;rw[if_pos h0] at h;exact uP h
 ·rfl
theorem Ay{x:Rat×Bool}(h:x.2=false→x.1=ja):(Ge x).getD ja=x.1∧(Ge x).isSome=x.2:=by
 unfold Ge
 cases hx:x.2
 ·rw[if_neg (by simp),h hx];exact⟨rfl,rfl⟩
 ·rw[if_pos rfl];exact⟨rfl,rfl⟩
theorem BV:∀{l h:Option Rat},(sW l h).2=false→(sW l h).1=ja
 | some _,some _,h=>C1 h
 | none,some _,h=>uJ h
 | some _,none,h=>uJ h
 | none,none,h=>by cases h
theorem ly{rows:List bB}{v:Nat}{ay:List Rat}{st:List (List bB)}(h:valueOf rows v ay=none):fV (rows::st) v ay=none:=by
 rw[fV,h]
theorem lu{rows:List bB}{v:Nat}{ay:List Rat}{st:List (List bB)}{x:Rat}(h:valueOf rows v ay=some x):fV (rows::st) v ay=fV st (v+1) (ay.set v x):=by
 rw[fV,h]
theorem Dc{l:List Rat}{i:Nat}{x:Rat}:(aP l).set i (dm x)=aP (l.set i x):=by simp[aP,List.map_set]
theorem k8{l:List Rat}{i:Nat}{x:Rat}(h:i<l.length):(aP l).set i (lS (row (aP l) i) 0 [.val (.int .i64 x.N),.val (.int .i64 x.D)])=aP (l.set i x):=by
 rw[vj h,←Dc]
 rfl
end Go.Mod
namespace Go.Mod
open Go.Eng
set_option maxRecDepth 100000
theorem im{s n:Nat}{p:Nat×Nat}:p∈bo s n↔s≤p.1∧p.1<p.2∧p.2<n:=by
 obtain⟨i,k⟩:=p
 simp only[bo,List.mem_flatMap,List.mem_map,List.mem_range'_1,Prod.mk.injEq]
 constructor
 ·rintro⟨i',h1,k',h2,rfl,rfl⟩;omega
 ·rintro⟨h1,h2,h3⟩
  exact⟨i,by omega,k,by omega,rfl,rfl⟩
theorem vY{i n:Nat}(h:i<n):bo i n=(List.range' (i+1) (n-(i+1))).map (fun k=>(i,k))++bo (i+1) n:=by
 unfold bo
 rw[jh h]
 rfl
theorem oT{i n:Nat}(h:n≤i):bo i n=[]:=by
 unfold bo
 rw[j6 h]
 rfl
theorem oZ{n:Nat}{p:Nat→Nat→Bool}{q:Nat×Nat}(h:bp n p=some q):q.1<q.2∧q.2<n∧p q.1 q.2=true:=by
 have h1:=List.find?_some h
 have h2:=im.1 (List.mem_of_find?_eq_some h)
 exact⟨h2.2.1,h2.2.2,h1⟩
theorem countP_le{α:Type}{p q:α→Bool}:∀{l:List α},(∀x∈l,p x=true→q x=true)→l.countP p≤l.countP q
 | [],_=>Nat.le_refl _
 | x::l,h=>by
   have:=countP_le (l:=l) fun y hy=>h y (List.mem_cons_of_mem _ hy)
   have hx:=h x (by simp)
   simp only[List.countP_cons]
   cases hp:p x
   ·simp;omega
   ·simp[hx hp];omega
theorem tN{α:Type}{p q:α→Bool}:∀{l:List α}{x:α},(∀x∈l,p x=true→q x=true)→x∈l→p x=false→q x=true→l.countP p<l.countP q
 | y::l,x,h,hx,hp,hq=>by
   simp only[List.countP_cons]
   rcases List.mem_cons.1 hx with e|e
   ·have:=countP_le (l:=l) fun y hy=>h y (List.mem_cons_of_mem _ hy)
    rw[←e,hp,hq]
    simp;omega
   ·have:=tN (l:=l) (fun y hy=>h y (List.mem_cons_of_mem _ hy)) e hp hq
    have hy:=h y (by simp)
    cases hpy:p y
    ·simp;omega
    ·simp[hy hpy];omega
theorem sk(nums:List Term)(out:List Nat)(e:e6):(di nums out e).length=out.length:=by
 unfold di
 split<;>simp
theorem jT(nums:List Term)(eqs:List e6):(dN nums eqs).length=nums.length:=by
 unfold dN
 have:∀(l:List e6)(c:List Nat),(l.foldl (di nums) c).length=c.length:=by
  intro l
  induction l with
  | nil=>intro c;rfl
  | cons s l ih=>intro c;rw[List.foldl_cons,ih,sk]
 rw[this,List.length_range]
theorem x5(nums:List Term)(eqs:List e6)(e:e6):dN nums (eqs++[e])=di nums (dN nums eqs) e:=by
 rw[dN,List.foldl_append];rfl
theorem zg{nums:List Term}{out:List Nat}{e:e6}{i k:Nat}(hi:i<out.length)(hk:k<out.length)(h:cl out i=cl out k):cl (di nums out e) i=cl (di nums out e) k:=by
 unfold di
 split
 ·exact h
 ·rw[yv hi,yv hk,h]
theorem AW(a b:List aG):aB (a++b)=aB a++aB b:=by simp[aB]
theorem Dj(a b:Term):aB [eO a b]=[⟨a,b⟩]:=rfl
theorem Et{nums:List Term}{lits more:List aG}{i k:Nat}(hi:i<nums.length)(hk:k<nums.length)(h:linked nums lits i k=true):linked nums (lits++more) i k=true:=by
 simp only[linked,decide_eq_true_eq] at h⊢
 rw[AW]
 generalize aB more=es
 generalize aB lits=ds at h
 induction es generalizing ds with
 | nil=>rw[List.append_nil];exact h
 | cons e es ih=>
   have:=ih (ds++[e]) (by
    rw[x5]
    exact zg (by rw[jT];exact hi) (by rw[jT];exact hk) h)
   rw[List.append_assoc] at this
   exact this
theorem nh{nums:List Term}(hn:nums.Nodup){i:Nat}(hi:i<nums.length):a8 nums nums[i]=i:=by
 have hm:nums[i]∈nums:=List.getElem_mem hi
 have h1:=uM hm
 have h2:=df.2 hm
 obtain⟨h3,h4⟩:=List.getElem?_eq_some_iff.1 h1
 have:=(List.getElem_inj hn).1 h4
 omega
theorem da{nums:List Term}{i:Nat}(hi:i<nums.length):nums.getD i ao=nums[i]:=by
 rw[List.getD_eq_getElem?_getD,List.getElem?_eq_getElem hi];rfl
theorem GS{nums:List Term}(hn:nums.Nodup){lits:List aG}{i k:Nat}(hi:i<nums.length)(hk:k<nums.length):linked nums (lits++[eO (nums.getD i ao) (nums.getD k ao)]) i k=true:=by
 simp only[linked,decide_eq_true_eq]
 rw[AW,Dj,x5,di,da hi,da hk]
 have e1:=nh hn hi
 have e2:=nh hn hk
 simp only[e1,e2,au,Int.toNat_natCast]
 rw[if_neg (by omega),yv (by rw[jT];exact hi),yv (by rw[jT];exact hk)]
 simp
theorem uU{nums:List Term}{lits more:List aG}{i k:Nat}(h:cJ nums lits i k=true):cJ nums (lits++more) i k=true:=by
 simp only[cJ,List.any_append,Bool.or_eq_true] at h⊢
 exact .inl h
theorem E0(a b:Term):(cP a b).no=false:=by
 unfold cP
 split<;>rfl
theorem ya{nums:List Term}{lits:List aG}{i k:Nat}:cJ nums (lits++[cP (nums.getD i ao) (nums.getD k ao)]) i k=true:=by
 simp[cJ,E0]
def jD(nums:List Term)(lits:List aG)(i k:Nat):Bool:=!linked nums lits i k&&(!cJ nums lits i k&& !cJ nums lits k i)
def room(nums:List Term)(lits:List aG):Nat:=(bo 0 nums.length).countP (fun q=>!linked nums lits q.1 q.2)+(bo 0 nums.length).countP (fun q=>jD nums lits q.1 q.2)
theorem mT{nums:List Term}{lits more:List aG}:∀q∈bo 0 nums.length,(!linked nums (lits++more) q.1 q.2)=true→(!linked nums lits q.1 q.2)=true:=by
 intro q hq h
 have hm:=im.1 hq
 cases hl:linked nums lits q.1 q.2
 ·rfl
 ·rw[Et (by omega) (by omega) hl] at h;cases h
theorem Dx{nums:List Term}{lits more:List aG}:∀q∈bo 0 nums.length,jD nums (lits++more) q.1 q.2=true→jD nums lits q.1 q.2=true:=by
 intro q hq h
 simp only[jD,Bool.and_eq_true] at h⊢
 refine⟨mT q hq h.1,?_,?_⟩
 ·cases hl:cJ nums lits q.1 q.2
  ·rfl
  ·rw[uU hl] at h;simp at h
 ·cases hl:cJ nums lits q.2 q.1
  ·rfl
  ·have:=h.2.2;rw[uU hl] at this;cases this
theorem N0{nums:List Term}(hn:nums.Nodup){lits:List aG}{i k:Nat}(h1:i<k)(h2:k<nums.length)(h:linked nums lits i k=false):room nums (lits++[eO (nums.getD i ao) (nums.getD k ao)])<room nums lits:=by
 unfold room
 have a:=tN (x:=(i,k)) (mT (more:=[eO (nums.getD i ao) (nums.getD k ao)])) (im.2 ⟨Nat.zero_le _,h1,h2⟩) (by show(!linked nums (lits++[eO (nums.getD i ao) (nums.getD k ao)]) i k)=false;rw[GS hn (show i<nums.length by omega) h2];rfl) (by rw[h];rfl)
 have b:=countP_le (Dx (nums:=nums) (lits:=lits) (more:=[eO (nums.getD i ao) (nums.getD k ao)]))
 omega
theorem AF{nums:List Term}{lits:List aG}{i k:Nat}(h1:i<k)(h2:k<nums.length)(h:jD nums lits i k=true){l:aG}(hl:l=cP (nums.getD i ao) (nums.getD k ao)∨l=cP (nums.getD k ao) (nums.getD i ao)):room nums (lits++[l])<room nums lits:=by
 unfold room
 have a:=countP_le (mT (nums:=nums) (lits:=lits) (more:=[l]))
 have b:=tN (x:=(i,k)) (Dx (nums:=nums) (lits:=lits) (more:=[l])) (im.2 ⟨Nat.zero_le _,h1,h2⟩) (by
  rcases hl with rfl|rfl
  ·simp only[jD,ya];simp
  ·simp only[jD,ya];simp) h
 omega
theorem room_le{nums:List Term}(h:nums.length≤4)(lits:List aG):room nums lits≤12:=by
 have a:=List.countP_le_length (p:=fun q:Nat×Nat=>!linked nums lits q.1 q.2) (l:=bo 0 nums.length)
 have b:=List.countP_le_length (p:=fun q:Nat×Nat=>jD nums lits q.1 q.2) (l:=bo 0 nums.length)
 have c:(bo 0 nums.length).length≤6:=by
  have key:∀n,n≤4→(bo 0 n).length≤6:=by decide
  exact key _ h
 unfold room
 omega
end Go.Mod
namespace Go.Mod
open Go.Eng
set_option maxRecDepth 100000
def dU(parts:List Term):Prop:=∀t∈parts,∀k∈t.kids,k∈parts
theorem bC{parts:List Term}{t:Term}(h:t∈parts):au parts t<parts.length:=ny h
theorem bm{parts:List Term}{t:Term}(h:t∈parts):a8 parts t=(au parts t:Int):=by
 have:=df.2 h
 unfold au
 omega
theorem Ez{parts:List Term}{c:List Nat}{xs ys:List Term}{i:Nat}(h:i<xs.length)(h':i<ys.length):ie parts c (xs.drop i) (ys.drop i)=(C3 parts c xs[i] ys[i]&&ie parts c (xs.drop (i+1)) (ys.drop (i+1))):=by
 rw[List.drop_eq_getElem_cons h,List.drop_eq_getElem_cons h',ie]
theorem F6{parts:List Term}{c:List Nat}:ie parts c [] []=true:=rfl
theorem xE{parts:List Term}{c:List Nat}:∀{xs ys:List Term},xs.length≠ys.length→ie parts c xs ys=false
 | [],[],h=>(h rfl).elim
 | [],_::_,_=>rfl
 | _::_,[],_=>rfl
 | x::xs,y::ys,h=>by
   rw[ie,xE (by simpa using h),Bool.and_false]
def cE(c:List Nat)(from_ to i:Nat):List Nat:=((c.take i).map fun k=>if k=from_ then to else k)++c.drop i
theorem mI(c:List Nat)(f t i:Nat):(cE c f t i).length=c.length:=by simp[cE];omega
theorem m9{c:List Nat}{f t i:Nat}(h:i<c.length)(h':i<(cE c f t i).length):(cE c f t i)[i]=c[i]:=by
 have:(cE c f t i)[i]?=some c[i]:=by
  unfold cE
  rw[List.getElem?_append_right (by simp;omega)]
  simp only[List.length_map,List.length_take,Nat.min_eq_left (Nat.le_of_lt h),Nat.sub_self,List.getElem?_drop,Nat.add_zero]
  exact List.getElem?_eq_getElem h
 exact(List.getElem?_eq_some_iff.1 this).2
theorem kV{c:List Nat}{f t i:Nat}(h:i<c.length):cE c f t (i+1)=(cE c f t i).set i (if c[i]=f then t else c[i]):=by
 have e:((c.take i).map fun k=>if k=f then t else k).length=i:=by
  rw[List.length_map,List.length_take,Nat.min_eq_left (Nat.le_of_lt h)]
 unfold cE
 rw[List.set_append_right _ _ (by omega),e,Nat.sub_self,List.drop_eq_getElem_cons h,List.set_cons_zero,List.take_add_one,List.getElem?_eq_getElem h,List.map_append,List.append_assoc]
 rfl
theorem nX{c:List Nat}{f t i:Nat}(h:i<c.length)(hne:c[i]≠f):cE c f t (i+1)=cE c f t i:=by
 rw[kV h,if_neg hne]
 conv=>rhs;rw[←List.set_getElem_self (as:=cE c f t i) (i:=i) (h:=by rw[mI];exact h)]
 rw[m9 h]
theorem Gm{c:List Nat}{a b i:Nat}(h:c.length≤i):cE c (max (cl c a) (cl c b)) (min (cl c a) (cl c b)) i=dD c a b:=by
 unfold cE dD
 rw[List.take_of_length_le h,List.drop_of_length_le h,List.append_nil]
theorem pE{l:List Nat}{i n:Nat}(h:i<l.length):(aN l).set i (lS (row (aN l) i) 0 [.val (.int .i64 (n:Int))])=aN (l.set i n):=by
 rw[jS h,←IY]
 rfl
def kG(e l n:Nat):List (Nat×Nat):=(List.range' e (l-e)).map (fun e=>(e,l))++dL (l+1) n
theorem yf{l n:Nat}(h:l<n):dL l n=kG 0 l n:=w9 h
theorem zh{e l n:Nat}(h:e<l):kG e l n=(e,l)::kG (e+1) l n:=by
 unfold kG
 rw[jh h];rfl
theorem Ci{e l n:Nat}(h:l≤e):kG e l n=dL (l+1) n:=by
 unfold kG
 rw[j6 h];rfl
end Go.Mod
namespace Go.Mod
open Go.Eng
set_option maxRecDepth 100000
def wQ(parts:List Term)(steps:List Step)(p9:Nat→Nat→Nat→iy)(i:Nat):iy:=
 if(fD steps i).given<0 then .mk 5 0 (.mk (parts.getD (vA steps i) ao).name []) (((parts.getD (vA steps i) ao).kids.zip (parts.getD (vB steps i) ao).kids).map fun p=>p9 i (au parts p.1) (au parts p.2)) else .mk 2 (fD steps i).given ao []
theorem FY(parts:List Term)(steps:List Step)(p9:Nat→Nat→Nat→iy)(e:Edge):lA parts steps p9 e=if e.back then .mk 3 0 ao [wQ parts steps p9 e.step] else wQ parts steps p9 e.step:=rfl
theorem yV{steps:List Step}{i:Nat}(h:i<steps.length):fD steps i=steps[i]:=by
 rw[fD,List.getD_eq_getElem?_getD,List.getElem?_eq_getElem h];rfl
theorem Ea{c:List Nat}{a b m:Nat}(h:∀x∈c,x≤m):∀x∈dD c a b,x≤m:=by
 intro x hx
 simp only[dD,List.mem_map] at hx
 obtain⟨y,hy,rfl⟩:=hx
 have hle:∀i,cl c i≤m:=fun i=>by
  rcases Nat.lt_or_ge i c.length with h1|h1
  ·exact h _ (yz h1)
  ·rw[On h1];exact Nat.zero_le _
 have:=hle a
 have:=hle b
 have:=h y hy
 split<;>omega
theorem ml{m:Nat}:∀{c:List Nat},(∀x∈c,x≤m)→c.sum≤c.length*m
 | [],_=>by simp
 | x::c,h=>by
   have h1:=h x (by simp)
   have h2:=ml (c:=c) fun y hy=>h y (List.mem_cons_of_mem _ hy)
   simp only[List.sum_cons,List.length_cons,Nat.add_mul]
   omega
theorem Ac{parts:List Term}{c:List Nat}:∀{xs ys:List Term},ie parts c xs ys=true→xs.length=ys.length∧∀(i:Nat)(h:i<xs.length)(h':i<ys.length),cl c (au parts xs[i])=cl c (au parts ys[i])
 | [],[],_=>⟨rfl,fun i h=>by simp at h⟩
 | [],_::_,h=>by cases h
 | _::_,[],h=>by cases h
 | x::xs,y::ys,h=>by
   simp only[ie,Bool.and_eq_true] at h
   obtain⟨i1,i2⟩:=Ac h.2
   refine⟨by simp[i1],fun i h1 h2=>?_⟩
   cases i with
   | zero=>simpa[C3] using h.1
   | succ i=>exact i2 i (by simpa using h1) (by simpa using h2)
theorem KY{parts:List Term}{c:List Nat}{a b:Nat}(h:alike parts c a b=true):0<(parts.getD a ao).kids.length∧(parts.getD a ao).name=(parts.getD b ao).name∧(parts.getD a ao).kids.length=(parts.getD b ao).kids.length ∧
 ∀(i:Nat)(h:i<(parts.getD a ao).kids.length)(h':i<(parts.getD b ao).kids.length),cl c (au parts (parts.getD a ao).kids[i])=cl c (au parts (parts.getD b ao).kids[i]):=by
 simp only[alike,Bool.and_eq_true,decide_eq_true_eq] at h
 obtain⟨i1,i2⟩:=Ac h.2.2
 exact⟨h.1,h.2.1,i1,i2⟩
theorem Li{α β γ:Type}{f:α×β→γ}{xs:List α}{ys:List β}{i:Nat}(h:i<xs.length)(h':i<ys.length):((xs.zip ys).take (i+1)).map f=((xs.zip ys).take i).map f++[f (xs[i],ys[i])]:=by
 rw[List.take_add_one,List.getElem?_eq_getElem (by simp;omega),List.map_append]
 simp
def Ke(one:Edge→iy)(t:Term):List Edge→iy
 | []=>.mk 1 0 t []
 | e::es=>ry one (one e) es
theorem MA(parts:List Term)(steps:List Step)(f n a b:Nat):nw parts steps (f+1) n a b=Ke (lA parts steps (nw parts steps f)) (parts.getD a ao) (iq parts.length steps n a b):=by
 rw[nw]
 cases iq parts.length steps n a b<;>rfl
theorem DM{one:Edge→iy}{t:Term}{way:List Edge}(h:0<way.length):Ke one t way=ry one (one way[0]) (way.drop 1):=by
 cases way with
 | nil=>simp at h
 | cons e es=>rfl
end Go.Mod
