/-
  What the deciding functions of chapters 3, 5 and 8 compute, in plain Lean: elimination, closures, explanations, decisions. No program is walked here.
-/
import Derived.Test.YtpidddienjoleaaGreatKDE
set_option linter.unusedVariables false
set_option linter.unusedSimpArgs false
namespace Go.Mod
open Go.Eng
set_option maxRecDepth 100000
def aP(l:List Nat):List (List D):=l.map fun n:Nat=>[.val (.int .i64 (n:Int))]
theorem Js(l:List Nat):(aP l).length=l.length:=by simp[aP]
theorem kn{l:List Nat}{i:Nat}(h:i<l.length):row (aP l) i=[.val (.int .i64 (l[i]:Int))]:=by simp[aP,row,List.getD,List.getElem?_eq_getElem h]
theorem mZ(a b:List Nat):aP a++aP b=aP (a++b):=by simp[aP]
theorem Ki{l:List Nat}{i n:Nat}:(aP l).set i [.val (.int .i64 (n:Int))]=aP (l.set i n):=by simp[aP,List.map_set]
attribute [go_sem] Js kn
theorem jr{i n:Nat}(h:i<n):List.range' i (n-i)=i::List.range' (i+1) (n-(i+1)):=by
 obtain⟨k,rfl⟩:∃k,n=i+1+k:=⟨n-(i+1),by omega⟩
 have e1:i+1+k-i=k+1:=by omega
 have e2:i+1+k-(i+1)=k:=by omega
 rw[e1,e2,List.range'_succ]
theorem kz{i n:Nat}(h:n≤i):List.range' i (n-i)=[]:=by
 have e1:n-i=0:=by omega
 rw[e1];rfl
theorem B9(n:Int):(whole n).N=n:=rfl
theorem Ja(n:Int):(whole n).D=1:=rfl
attribute [go_sem] B9 Ja
structure bC where
 lx:eQ
 fI:List Int
 deriving DecidableEq
def cU(r:bC):List D:=[.bx (aJ r.lx.an),.val (.int .i64 r.lx.bound),.val (.bool r.lx.strict),.bx (aJ r.fI)]
def cd(l:List bC):List (List D):=l.map cU
theorem JI(l:List bC):(cd l).length=l.length:=by simp[cd]
theorem JP{l:List bC}{i:Nat}(h:i<l.length):row (cd l) i=cU l[i]:=by simp[cd,row,List.getD,List.getElem?_eq_getElem h]
theorem AP(a b:List bC):cd a++cd b=cd (a++b):=by simp[cd]
theorem uD:cd []=[]:=rfl
theorem yS(n:bC)(l:List bC):cd (n::l)=cU n::cd l:=rfl
attribute [go_sem] JI JP uD cU
def bf(r:bC)(v:Nat):Int:=r.lx.an.getD v 0
def oo(n i:Nat):List Int:=(List.replicate n 0).set i 1
def aR(ls:List eQ):List bC:=(List.range ls.length).map fun i=>⟨ls.getD i jE,oo ls.length i⟩
def ue(a b:bC)(v:Nat):Int:=(Int.gcd (bf a v) (-(bf b v)):Int)
def oI(a b:bC)(v:Nat):Int:=(bf a v).tdiv (ue a b v)
def pH(a b:bC)(v:Nat):Int:=(-(bf b v)).tdiv (ue a b v)
def pK(a b:bC)(v:Nat):List Int:=comb (pH a b v) (oI a b v) a.fI b.fI
def FA(a b:bC)(v:Nat):bC:=⟨(cS a.lx (pH a b v) b.lx (oI a b v)).1,pK a b v⟩
def u7(a b:bC)(v:Nat):Bool:=(cS a.lx (pH a b v) b.lx (oI a b v)).2&&(pK a b v).all fun n=>decide (n≤1000000)
def nb(a:bC)(v:Nat)(rows:List bC):List (bC×bC):=rows.filterMap fun b=>if 0<bf a v∧bf b v<0 then some (a,b) else none
def nD(all rows:List bC)(v:Nat):List (bC×bC):=rows.flatMap fun a=>nb a v all
def iG(v:Nat):List (bC×bC)→List bC→Option (List bC)
 | [],out=>some out
 | (a,b)::ps,out=>if u7 a b v=true∧out.length<200 then iG v ps (out++[FA a b v]) else none
def fH(rows:List bC)(v:Nat):Option (List bC):=iG v (nD rows rows v) (rows.filter fun r=>decide (bf r v=0))
def mE(v:Nat):Nat→List Int→List Rat→Rat→Option Rat
 | i,c::cs,x::xs,sum=>if i=v then mE v (i+1) cs xs sum else if(plus sum (-c) x).2 then mE v (i+1) cs xs (plus sum (-c) x).1 else none
 | _,_,_,sum=>some sum
def HJ(x:Rat×Bool):Option Rat:=if x.2 then some x.1 else none
def iE(l:eQ)(v:Nat)(aw:List Rat):Option Rat:=
 match mE v 0 l.an aw (whole l.bound) with
 | none=>none
 | some sum=>if(oO 1 (l.an.getD v 0)).2 then HJ (dh sum (oO 1 (l.an.getD v 0)).1) else none
def lower(x:Rat):Option Rat→Bool
 | none=>true
 | some h=>bD x h
def upper(x:Rat):Option Rat→Bool
 | none=>true
 | some l=>bD l x
def jO(v:Nat)(aw:List Rat):List bC→Option Rat→Option Rat→Option (Option Rat×Option Rat)
 | [],lo,hi=>some (lo,hi)
 | r::rs,lo,hi=>if bf r v=0 then jO v aw rs lo hi else match iE r.lx v aw with
   | none=>none
   | some b=>if 0<bf r v then jO v aw rs lo (if lower b hi then some b else hi) else jO v aw rs (if upper b lo then some b else lo) hi
def tI:Option Rat→Option Rat→Rat×Bool
 | some l,some h=>oQ l h
 | none,some h=>c7 h (whole (-1))
 | some l,none=>c7 l (whole 1)
 | none,none=>(whole 0,true)
def valueOf(rows:List bC)(v:Nat)(aw:List Rat):Option Rat:=
 match jO v aw rows none none with
 | none=>none
 | some e=>HJ (tI e.1 e.2)
def gp:List (List bC)→Nat→List Rat→Option (List Rat)
 | [],_,aw=>some aw
 | rows::st,v,aw=>match valueOf rows v aw with
   | none=>none
   | some x=>gp st (v+1) (aw.set v x)
def eu:List Int→List Rat→Rat→Option Rat
 | c::cs,x::xs,sum=>if(plus sum c x).2 then eu cs xs (plus sum c x).1 else none
 | _,_,sum=>some sum
def kM(aw:List Rat):Bool:=decide (aw.length=4)&&aw.all aS
def lQ(l:eQ)(aw:List Rat):Option Bool:=if bR l&&kM aw then(eu l.an aw (whole 0)).map fun x=>below x l.bound l.strict else none
def fR(list:List eQ)(aw:List Rat):Bool:=dC list&&(kM aw&&list.all fun l=>decide (lQ l aw=some true))
def o7:List Rat:=[whole 0,whole 0,whole 0,whole 0]
structure Tc where
 aw:List Rat
 times:List Int
 code:Int
def fC(list:List eQ)(s0 s1 s2 s3 rows:List bC):Tc:=
 match rows.find? fun r=>mq r.lx with
 | some r=>if vU list r.fI then⟨[],r.fI,1⟩ else⟨[],[],2⟩
 | none=>match gp [s0,s1,s2,s3] 0 o7 with
   | none=>⟨[],[],2⟩
   | some aw=>if fR list aw then⟨aw,[],0⟩ else⟨[],[],2⟩
def a7(list:List eQ):Tc:=
 if dC list then match fH (aR list) 3 with
  | none=>⟨[],[],2⟩
  | some r2=>match fH r2 2 with
    | none=>⟨[],[],2⟩
    | some r1=>match fH r1 1 with
      | none=>⟨[],[],2⟩
      | some r0=>match fH r0 0 with
        | none=>⟨[],[],2⟩
        | some rows=>fC list r0 r1 r2 (aR list) rows
 else⟨[],[],3⟩
def al(parts:List Term)(t:Term):Nat:=(aF parts t).toNat
def cl(class_:List Nat)(i:Nat):Nat:=class_.getD i 0
def dG(class_:List Nat)(a b:Nat):List Nat:=class_.map fun k=>if k=max (cl class_ a) (cl class_ b) then min (cl class_ a) (cl class_ b) else k
def DN(parts:List Term)(class_:List Nat)(x y:Term):Bool:=decide (cl class_ (al parts x)=cl class_ (al parts y))
def gm(parts:List Term)(class_:List Nat):List Term→List Term→Bool
 | [],[]=>true
 | x::xs,y::ys=>DN parts class_ x y&&gm parts class_ xs ys
 | _,_=>false
def alike(parts:List Term)(class_:List Nat)(a b:Nat):Bool:=
 decide (0<(parts.getD a ao).kids.length)&&(decide ((parts.getD a ao).name=(parts.getD b ao).name)&&gm parts class_ (parts.getD a ao).kids (parts.getD b ao).kids)
def kq(parts:List Term)(class_:List Nat)(early late:Nat):Bool:=decide (cl class_ early≠cl class_ late)&&alike parts class_ early late
def dK(from_ n:Nat):List (Nat×Nat):=(List.range' from_ (n-from_)).flatMap fun l=>(List.range' 0 l).map fun e=>(e,l)
def dM(parts:List Term)(class_:List Nat):Option (Nat×Nat):=(dK 0 parts.length).find? fun p=>kq parts class_ p.1 p.2
def dQ(parts:List Term):Nat→List gk→List Nat→List Step→List Nat×List Step
 | _,[],class_,steps=>(class_,steps)
 | n,e::es,class_,steps=>
   if cl class_ (al parts e.A)=cl class_ (al parts e.B) then dQ parts (n+1) es class_ steps
   else dQ parts (n+1) es (dG class_ (al parts e.A) (al parts e.B)) (steps++[⟨al parts e.A,al parts e.B,n⟩])
def fc(parts:List Term):Nat→List Nat→List Step→List Nat×List Step
 | 0,class_,steps=>(class_,steps)
 | f+1,class_,steps=>match dM parts class_ with
   | none=>(class_,steps)
   | some p=>fc parts f (dG class_ p.1 p.2) (steps++[⟨p.1,p.2,-1⟩])
def given(parts:List Term)(eqs:List gk):List Nat×List Step:=dQ parts 0 eqs (List.range parts.length) []
def closed(parts:List Term)(eqs:List gk):List Nat×List Step:=fc parts (given parts eqs).1.sum (given parts eqs).1 (given parts eqs).2
def az(n:Nat)(steps:List Step)(k:Nat):List Nat:=(steps.take k).foldl (fun c s=>dG c s.A.toNat s.B.toNat) (List.range n)
structure Edge where
 step:Nat
 back:Bool
 deriving DecidableEq
def fS(steps:List Step)(k:Nat):Step:=steps.getD k ⟨0,0,0⟩
def iL(n:Nat)(steps:List Step):Nat→Nat→Nat→List Edge
 | 0,_,_=>[]
 | k+1,a,b=>
   let c:=az n steps k
   if cl c a=cl c b then iL n steps k a b
   else if cl c a=cl c (fS steps k).A.toNat then iL n steps k a (fS steps k).A.toNat++⟨k,false⟩::iL n steps k (fS steps k).B.toNat b
   else iL n steps k a (fS steps k).B.toNat++⟨k,true⟩::iL n steps k (fS steps k).A.toNat b
def lH(parts:List Term)(steps:List Step)(qR:Nat→Nat→Nat→ja)(e:Edge):ja:=
 let s:=fS steps e.step
 let w:ja:=if s.given<0 then .mk 5 0 (.mk (parts.getD s.A.toNat ao).name []) (((parts.getD s.A.toNat ao).kids.zip (parts.getD s.B.toNat ao).kids).map fun p=>qR e.step (al parts p.1) (al parts p.2)) else .mk 2 s.given ao []
 if e.back then .mk 3 0 ao [w] else w
def rI(one:Edge→ja):ja→List Edge→ja
 | w,[]=>w
 | w,e::es=>rI one (.mk 4 0 ao [w,one e]) es
def nh(parts:List Term)(steps:List Step):Nat→Nat→Nat→Nat→ja
 | 0,_,_,_=>uI
 | f+1,n,a,b=>match iL parts.length steps n a b with
   | []=>.mk 1 0 (parts.getD a ao) []
   | e::es=>rI (lH parts steps (nh parts steps f)) (lH parts steps (nh parts steps f) e) es
def iZ(parts:List Term)(steps:List Step)(a b:Term):ja:=nh parts steps (steps.length+1) steps.length (al parts a) (al parts b)
def b7(nums:List Term)(out:List Nat)(e:gk):List Nat:=
 if aF nums e.A<0∨aF nums e.B<0 then out else out.map fun k=>if k=cl out (al nums e.A) then cl out (al nums e.B) else k
def dR(nums:List Term)(eqs:List gk):List Nat:=eqs.foldl (b7 nums) (List.range nums.length)
def linked(nums:List Term)(lits:List aE)(i k:Nat):Bool:=decide (cl (dR nums (aI lits)) i=cl (dR nums (aI lits)) k)
def cu(nums:List Term)(lits:List aE)(i k:Nat):Bool:=lits.any fun l=>!l.no&&decide (l.atom=(ct (nums.getD i ao) (nums.getD k ao)).atom)
def bq(from_ n:Nat):List (Nat×Nat):=(List.range' from_ (n-from_)).flatMap fun i=>(List.range' (i+1) (n-(i+1))).map fun k=>(i,k)
def bj(n:Nat)(p:Nat→Nat→Bool):Option (Nat×Nat):=(bq 0 n).find? fun q=>p q.1 q.2
def eM(terms:List Term)(class_:List Nat)(a b:Term):Bool:=decide (cl class_ (al terms a)=cl class_ (al terms b))
def ic(terms:List Term)(class_:List Nat)(l:aE):Bool:=l.no&&(decide (l.atom.kind=1)&&eM terms class_ l.atom.A l.atom.B)
def iH{α:Type}(p:α→Bool)(l:List α):Option Nat:=(List.range l.length).find? fun i=>match l[i]? with|none=>false|some x=>p x
def gv(terms nums:List Term)(class_:List Nat)(aw:List Rat)(t:Term):Rat:=if aF nums t<0 then whole (cl class_ (al terms t)) else aw.getD (al nums t) (whole 0)
def dY(terms nums:List Term)(class_:List Nat)(aw:List Rat)(t:Term):Row:=⟨t.name,t.kids.map (gv terms nums class_ aw),gv terms nums class_ aw t⟩
def putRow(rows:List Row)(r:Row):List Row:=
 let lo:=rows.takeWhile fun x=>decide (bJ x r<0)
 let hi:=rows.dropWhile fun x=>decide (bJ x r<0)
 match hi with
 | []=>lo++[r]
 | x::xs=>if bJ x r=0 then rows else lo++r::x::xs
def cV(terms nums:List Term)(class_:List Nat)(aw:List Rat):List Row:=terms.foldl (fun rows t=>putRow rows (dY terms nums class_ aw t)) []
def c6(s:bA)(m:Model)(lits:List aE):Bool:=de s m&&lits.all fun l=>decide (fK s m l=some true)
structure xh where
 model:Model
 case:Case
 code:Int
def ov:Case:=.mk 0 0 uI [] ao ao []
def iU:Model:=⟨[]⟩
def rm:xh:=⟨iU,ov,2⟩
def BI(w:ja)(r:xh):xh:=if r.code=1 then⟨iU,.mk 3 0 w [] ao ao [r.case],1⟩ else⟨r.model,ov,r.code⟩
def pf(run:List aE→xh)(a b:Term):List (List aE)→List Case→xh
 | [],out=>⟨iU,.mk 4 0 uI [] a b out,1⟩
 | l::ls,out=>if(run l).code=1 then pf run a b ls (out++[(run l).case]) else⟨(run l).model,ov,(run l).code⟩
def e5(s:bA)(terms nums:List Term):Nat→List aE→xh
 | 0,_=>rm
 | f+1,lits=>
   let eqs:=aI lits
   let c:=closed terms eqs
   let zW:=a7 (bH nums lits)
   if 12<eqs.length then rm else
   match iH (ic terms c.1) lits with
   | some n=>⟨iU,.mk 1 n (iZ terms c.2 (lits.getD n z7).atom.A (lits.getD n z7).atom.B) [] ao ao [],1⟩
   | none=>
     if zW.code=1 then⟨iU,.mk 2 0 uI zW.times ao ao [],1⟩ else
     if zW.code≠0 then rm else
     match bj nums.length (fun i k=>!linked nums lits i k&&eM terms c.1 (nums.getD i ao) (nums.getD k ao)) with
     | some (i,k)=>BI (iZ terms c.2 (nums.getD i ao) (nums.getD k ao)) (e5 s terms nums f (lits++[eE (nums.getD i ao) (nums.getD k ao)]))
     | none=>match bj nums.length (fun i k=>!linked nums lits i k&&(!cu nums lits i k&& !cu nums lits k i)) with
       | some (i,k)=>pf (e5 s terms nums f) (nums.getD i ao) (nums.getD k ao) ((gL (nums.getD i ao) (nums.getD k ao)).map fun l=>lits++[l]) []
       | none=>if c6 s ⟨cV terms nums c.1 zW.aw⟩ lits then⟨⟨cV terms nums c.1 zW.aw⟩,ov,0⟩ else rm
def fG(s:bA)(lits:List aE):xh:=if bG s lits then e5 s (ai lits) (numsOf s lits) 13 lits else⟨iU,ov,3⟩
end Go.Mod
namespace Go.Mod
open Go.Eng
set_option maxRecDepth 100000
theorem fh{c:List Nat}{i:Nat}(h:i<c.length):cl c i=c[i]:=by rw[cl,List.getD_eq_getElem?_getD,List.getElem?_eq_getElem h];rfl
theorem xW{c:List Nat}{i:Nat}(h:i<c.length):cl c i∈c:=by rw[fh h];exact List.getElem_mem h
theorem PK{c:List Nat}{i:Nat}(h:c.length≤i):cl c i=0:=by rw[cl,List.getD_eq_getElem?_getD,List.getElem?_eq_none h];rfl
theorem dy(c:List Nat)(a b:Nat):(dG c a b).length=c.length:=by simp[dG]
theorem rD{c:List Nat}{f:Nat→Nat}{i:Nat}(h:i<c.length):cl (c.map f) i=f (cl c i):=by
 rw[fh (by simpa using h),fh h,List.getElem_map]
theorem tv{c:List Nat}{a b i:Nat}(h:i<c.length):cl (dG c a b) i=if cl c i=max (cl c a) (cl c b) then min (cl c a) (cl c b) else cl c i:=rD h
theorem BX{c:List Nat}{a b i k:Nat}(hi:i<c.length)(hk:k<c.length):cl (dG c a b) i=cl (dG c a b) k↔(cl c i=cl c k∨(cl c i=cl c a∧cl c k=cl c b)∨(cl c i=cl c b∧cl c k=cl c a)):=by
 rw[tv hi,tv hk]
 split<;>split<;>omega
theorem Me{f:Nat→Nat}(hf:∀x,f x≤x):∀l:List Nat,(l.map f).sum≤l.sum
 | []=>Nat.le_refl _
 | x::l=>by
   have:=Me hf l
   have:=hf x
   simp only[List.map_cons,List.sum_cons]
   omega
theorem Lp{f:Nat→Nat}(hf:∀x,f x≤x):∀{l:List Nat}{x:Nat},x∈l→f x<x→(l.map f).sum<l.sum
 | y::l,x,hx,h=>by
   simp only[List.map_cons,List.sum_cons]
   have h1:=Me hf l
   have h2:=hf y
   rcases List.mem_cons.1 hx with e|e
   ·subst e;omega
   ·have:=Lp hf e h
    omega
theorem Bh{c:List Nat}{a b:Nat}(ha:a<c.length)(hb:b<c.length)(h:cl c a≠cl c b):(dG c a b).sum<c.sum:=by
 refine Lp (x:=max (cl c a) (cl c b)) (fun x=>?_) ?_ ?_
 ·split<;>omega
 ·rcases Nat.le_total (cl c a) (cl c b) with h1|h1
  ·rw[Nat.max_eq_right h1];exact xW hb
  ·rw[Nat.max_eq_left h1];exact xW ha
 ·rw[if_pos rfl];omega
theorem qE{s n:Nat}{p:Nat×Nat}:p∈dK s n↔p.1<p.2∧s≤p.2∧p.2<n:=by
 obtain⟨e,l⟩:=p
 simp only[dK,List.mem_flatMap,List.mem_map,List.mem_range'_1,Prod.mk.injEq]
 constructor
 ·rintro⟨l',h1,e',h2,rfl,rfl⟩;omega
 ·rintro⟨h1,h2,h3⟩
  exact⟨l,by omega,e,by omega,rfl,rfl⟩
theorem zR{l n:Nat}(h:l<n):dK l n=(List.range' 0 (l-0)).map (fun e=>(e,l))++dK (l+1) n:=by
 unfold dK
 rw[jr h]
 rfl
theorem z8{l n:Nat}(h:n≤l):dK l n=[]:=by
 unfold dK
 rw[kz h]
 rfl
theorem mu{parts:List Term}{c:List Nat}{p:Nat×Nat}(h:dM parts c=some p):p.1<p.2∧p.2<parts.length∧cl c p.1≠cl c p.2∧alike parts c p.1 p.2=true:=by
 have h1:=List.find?_some h
 have h2:=qE.1 (List.mem_of_find?_eq_some h)
 simp only[kq,Bool.and_eq_true,decide_eq_true_eq] at h1
 exact⟨h2.1,h2.2.2,h1.1,h1.2⟩
theorem Ls{x:Nat}:∀{l:List Nat},x∈l→x≤l.sum
 | y::l,h=>by
   simp only[List.sum_cons]
   rcases List.mem_cons.1 h with e|e
   ·omega
   ·have:=Ls e;omega
theorem tC{parts:List Term}{f:Nat}{c:List Nat}{steps:List Step}(h:dM parts c=none):fc parts f c steps=(c,steps):=by
 cases f with
 | zero=>rfl
 | succ f=>simp only[fc,h]
theorem tE{parts:List Term}{f:Nat}{c:List Nat}{steps:List Step}{p:Nat×Nat}(hs:c.sum≤f)(hc:c.length=parts.length)(h:dM parts c=some p) :
 ∃f',f=f'+1∧fc parts f c steps=fc parts f' (dG c p.1 p.2) (steps++[⟨p.1,p.2,-1⟩])∧(dG c p.1 p.2).sum≤f':=by
 obtain⟨h1,h2,h3,h4⟩:=mu h
 have hd:=Bh (c:=c) (a:=p.1) (b:=p.2) (by omega) (by omega) h3
 obtain⟨f',rfl⟩:∃f',f=f'+1:=⟨f-1,by omega⟩
 exact⟨f',rfl,by simp only[fc,h],by omega⟩
structure Cd(parts:List Term)(eqs:List gk)(c:List Nat)(s:Step):Prop where
 a0:0≤s.A
 a1:s.A.toNat<parts.length
 b0:0≤s.B
 b1:s.B.toNat<parts.length
 ne:cl c s.A.toNat≠cl c s.B.toNat
 Sz:(s.given = -1∧alike parts c s.A.toNat s.B.toNat=true)∨(∃n:Nat,s.given=n∧∃e,eqs[n]?=some e∧s.A=al parts e.A∧s.B=al parts e.B)
def ke(parts:List Term)(eqs:List gk)(steps:List Step):Prop:=∀k s,steps[k]?=some s→Cd parts eqs (az parts.length steps k) s
theorem mC{n k:Nat}{steps more:List Step}(h:k≤steps.length):az n (steps++more) k=az n steps k:=by
 rw[az,az,List.take_append_of_le_length h]
theorem fu(n:Nat)(steps:List Step)(k:Nat):(az n steps k).length=n:=by
 unfold az
 have:∀(l:List Step)(c:List Nat),(l.foldl (fun c s=>dG c s.A.toNat s.B.toNat) c).length=c.length:=by
  intro l
  induction l with
  | nil=>intro c;rfl
  | cons s l ih=>intro c;rw[List.foldl_cons,ih,dy]
 rw[this,List.length_range]
theorem kF{n k:Nat}{steps:List Step}{s:Step}(h:steps[k]?=some s):az n steps (k+1)=dG (az n steps k) s.A.toNat s.B.toNat:=by
 obtain⟨hk,rfl⟩:=List.getElem?_eq_some_iff.1 h
 rw[az,List.take_add_one,List.getElem?_eq_getElem hk,List.foldl_append]
 rfl
theorem Ci{parts:List Term}{eqs:List gk}{steps:List Step}{s:Step}(h:ke parts eqs steps)(hs:Cd parts eqs (az parts.length steps steps.length) s):ke parts eqs (steps++[s]):=by
 intro k t ht
 rcases Nat.lt_trichotomy k steps.length with h1|h1|h1
 ·rw[List.getElem?_append_left h1] at ht
  rw[mC (by omega)]
  exact h k t ht
 ·subst h1
  rw[List.getElem?_append_right (Nat.le_refl _)] at ht
  simp only[Nat.sub_self,List.getElem?_cons_zero,Option.some.injEq] at ht
  rw[mC (Nat.le_refl _),←ht]
  exact hs
 ·rw[List.getElem?_eq_none (by simp;omega)] at ht
  cases ht
theorem yj{n:Nat}{steps:List Step}{s:Step}:az n (steps++[s]) (steps++[s]).length=dG (az n steps steps.length) s.A.toNat s.B.toNat:=by
 rw[List.length_append,List.length_singleton,kF (s:=s) (by simp),mC (Nat.le_refl _)]
def Kept(parts:List Term)(eqs:List gk)(x:List Nat×List Step):Prop:=ke parts eqs x.2∧x.1=az parts.length x.2 x.2.length
theorem FF{parts:List Term}{eqs:List gk}{x:List Nat×List Step}(h:Kept parts eqs x):x.1.length=parts.length:=by rw[h.2,fu]
theorem BN{parts:List Term}{eqs:List gk}{x:List Nat×List Step}{s:Step}(h:Kept parts eqs x)(hs:Cd parts eqs x.1 s):Kept parts eqs (dG x.1 s.A.toNat s.B.toNat,x.2++[s]):=
 ⟨Ci h.1 (h.2▸hs),by rw[yj,←h.2]⟩
theorem nY{parts:List Term}{all:List gk}(hin:∀e∈all,e.A∈parts∧e.B∈parts):∀(eqs:List gk)(n:Nat)(c:List Nat)(steps:List Step),all.drop n=eqs→Kept parts all (c,steps)→Kept parts all (dQ parts n eqs c steps)
 | [],_,_,_,_,h=>h
 | e::es,n,c,steps,hd,h=>by
   have hn:all[n]?=some e:=by
    have:=congrArg (·[0]?) hd
    simpa using this
   have hd2:all.drop (n+1)=es:=by
    have:=congrArg List.tail hd
    simpa[List.tail_drop] using this
   obtain⟨hA,hB⟩:=hin e (List.mem_of_getElem? hn)
   rw[dQ]
   split
   ·exact nY hin es (n+1) c steps hd2 h
   ·rename_i hne
    exact nY hin es (n+1) _ _ hd2 (BN (s:=⟨al parts e.A,al parts e.B,n⟩) h ⟨Int.natCast_nonneg _,by rw[Int.toNat_natCast];exact gJ hA,Int.natCast_nonneg _,by rw[Int.toNat_natCast];exact gJ hB,by simpa using hne,.inr ⟨n,rfl,e,hn,rfl,rfl⟩⟩)
theorem sm{parts:List Term}{all:List gk}:∀(f:Nat)(c:List Nat)(steps:List Step),Kept parts all (c,steps)→Kept parts all (fc parts f c steps)
 | 0,_,_,h=>h
 | f+1,c,steps,h=>by
   rw[fc]
   split
   ·exact h
   ·rename_i p hp
    obtain⟨h1,h2,h3,h4⟩:=mu hp
    exact sm f _ _ (BN (s:=⟨p.1,p.2,-1⟩) h ⟨Int.natCast_nonneg _,by simp;omega,Int.natCast_nonneg _,by simpa using h2,by simpa using h3,.inl ⟨rfl,by simpa using h4⟩⟩)
theorem Gt{parts:List Term}{eqs:List gk}(hin:∀e∈eqs,e.A∈parts∧e.B∈parts):Kept parts eqs (given parts eqs):=
 nY hin eqs 0 _ _ rfl ⟨fun k s h=>by simp at h,rfl⟩
theorem lM{parts:List Term}{eqs:List gk}(hin:∀e∈eqs,e.A∈parts∧e.B∈parts):Kept parts eqs (closed parts eqs):=sm _ _ _ (Gt hin)
theorem rn{parts:List Term}{eqs:List gk}{x:List Nat×List Step}(h:Kept parts eqs x):∀k,k≤x.2.length→(az parts.length x.2 k).sum+k≤(List.range parts.length).sum:=by
 intro k
 induction k with
 | zero=>intro _;exact Nat.le_of_eq (by simp[az])
 | succ k ih=>
   intro hk
   have hs:x.2[k]?=some x.2[k]:=List.getElem?_eq_getElem (by omega)
   have h1:=ih (by omega)
   have h2:=h.1 k _ hs
   have h3:=Bh (c:=az parts.length x.2 k) (by rw[fu];exact h2.a1) (by rw[fu];exact h2.b1) h2.ne
   rw[kF hs]
   omega
end Go.Mod
namespace Go.Mod
open Go.Eng
set_option maxRecDepth 100000
def vA(steps:List Step)(k:Nat):Nat:=(fS steps k).A.toNat
def vB(steps:List Step)(k:Nat):Nat:=(fS steps k).B.toNat
def fA(steps:List Step)(e:Edge):Nat:=if e.back then vB steps e.step else vA steps e.step
def hQ(steps:List Step)(e:Edge):Nat:=if e.back then vA steps e.step else vB steps e.step
def ni(steps:List Step):Nat→List Edge→Nat→Prop
 | a,[],b=>a=b
 | a,e::es,b=>fA steps e=a∧ni steps (hQ steps e) es b
def jW(k:Nat)(es:List Edge):Prop:=∀e∈es,e.step<k
def dv(steps:List Step)(a:Nat)(es:List Edge):List Nat:=a::es.map (hQ steps)
theorem oM{steps:List Step}:∀{p q:List Edge}{a b:Nat},ni steps a (p++q) b↔∃m,ni steps a p m∧ni steps m q b
 | [],q,a,b=>by simp[ni]
 | e::p,q,a,b=>by
   simp only[List.cons_append,ni,oM (p:=p)]
   constructor
   ·rintro⟨h1,m,h2,h3⟩;exact⟨m,⟨h1,h2⟩,h3⟩
   ·rintro⟨m,⟨h1,h2⟩,h3⟩;exact⟨h1,m,h2,h3⟩
theorem Ei{steps:List Step}:∀{p:List Edge}{a b:Nat},ni steps a p b→b∈dv steps a p
 | [],a,b,h=>by simp[ni] at h;simp[dv,h]
 | e::p,a,b,h=>by
   have:=Ei h.2
   simp only[dv,List.map_cons,List.mem_cons] at this⊢
   exact .inr this
section
variable{parts:List Term}{eqs:List gk}{steps:List Step}(hok:ke parts eqs steps)
include hok
theorem p9{k:Nat}(h:k<steps.length):Cd parts eqs (az parts.length steps k) (fS steps k):=by
 have e:=List.getElem?_eq_getElem h
 have:=hok k _ e
 rw[fS,List.getD_eq_getElem?_getD,e]
 exact this
theorem DT{k:Nat}(h:k<steps.length):vA steps k<parts.length:=(p9 hok h).a1
theorem E5{k:Nat}(h:k<steps.length):vB steps k<parts.length:=(p9 hok h).b1
omit hok in
theorem N7{k:Nat}(h:k<steps.length):az parts.length steps (k+1)=dG (az parts.length steps k) (vA steps k) (vB steps k):=by
 rw[kF (List.getElem?_eq_getElem h),vA,vB,fS,List.getD_eq_getElem?_getD,List.getElem?_eq_getElem h]
 rfl
omit hok in
theorem Lx{k i j:Nat}(h:k<steps.length)(hi:i<parts.length)(hj:j<parts.length):cl (az parts.length steps (k+1)) i=cl (az parts.length steps (k+1)) j ↔
 (cl (az parts.length steps k) i=cl (az parts.length steps k) j∨(cl (az parts.length steps k) i=cl (az parts.length steps k) (vA steps k)∧cl (az parts.length steps k) j=cl (az parts.length steps k) (vB steps k))∨(cl (az parts.length steps k) i=cl (az parts.length steps k) (vB steps k)∧cl (az parts.length steps k) j=cl (az parts.length steps k) (vA steps k))):=by
 rw[N7 h]
 exact BX (by rw[fu];exact hi) (by rw[fu];exact hj)
theorem AI:∀{k:Nat},k≤steps.length→∀{j:Nat},j<k→cl (az parts.length steps k) (vA steps j)=cl (az parts.length steps k) (vB steps j)
 | 0,_,j,h=>by omega
 | k+1,hk,j,h=>by
   rw[Lx (by omega) (DT hok (by omega)) (E5 hok (by omega))]
   rcases Nat.lt_or_ge j k with h1|h1
   ·exact .inl (AI (by omega) h1)
   ·obtain rfl:j=k:=by omega
    exact .inr (.inl ⟨rfl,rfl⟩)
theorem xA{e:Edge}(h:e.step<steps.length):hQ steps e<parts.length:=by
 unfold hQ
 split
 ·exact DT hok h
 ·exact E5 hok h
theorem BU{k:Nat}(hk:k≤steps.length){e:Edge}(h:e.step<k):cl (az parts.length steps k) (fA steps e)=cl (az parts.length steps k) (hQ steps e):=by
 have:=AI hok hk h
 unfold fA hQ
 cases e.back
 ·simpa using this
 ·simpa using this.symm
theorem ql{k:Nat}(hk:k≤steps.length):∀{es:List Edge}{a b:Nat},jW k es→ni steps a es b→cl (az parts.length steps k) a=cl (az parts.length steps k) b
 | [],a,b,_,h=>by simp only[ni] at h;rw[h]
 | e::es,a,b,hw,h=>by
   rw[←h.1,BU hok hk (hw e (by simp))]
   exact ql hk (fun x hx=>hw x (List.mem_cons_of_mem _ hx)) h.2
theorem CS{k:Nat}(hk:k≤steps.length):∀{es:List Edge}{a b:Nat},jW k es→ni steps a es b→a<parts.length→b<parts.length
 | [],a,b,_,h,ha=>by simp only[ni] at h;omega
 | e::es,a,b,hw,h,ha=>CS hk (fun x hx=>hw x (List.mem_cons_of_mem _ hx)) h.2 (xA hok (by have:=hw e (by simp);omega))
theorem kI{k:Nat}(hk:k≤steps.length):∀{es:List Edge}{a b:Nat},jW k es→ni steps a es b→∀v∈dv steps a es,cl (az parts.length steps k) v=cl (az parts.length steps k) a
 | [],a,b,_,h,v,hv=>by simp[dv] at hv;rw[hv]
 | e::es,a,b,hw,h,v,hv=>by
   simp only[dv,List.map_cons,List.mem_cons] at hv
   rcases hv with e1|hv
   ·rw[e1]
   ·rw[kI hk (fun x hx=>hw x (List.mem_cons_of_mem _ hx)) h.2 v (by simpa[dv] using hv),←h.1]
    exact(BU hok hk (hw e (by simp))).symm
theorem nP:∀{k:Nat},k≤steps.length→∀{es:List Edge}{a b:Nat},a<parts.length→jW k es→ni steps a es b→(dv steps a es).Nodup→es=iL parts.length steps k a b
 | 0,_,es,a,b,_,hw,h,_=>by
   cases es with
   | nil=>rfl
   | cons e es=>exact absurd (hw e (by simp)) (by omega)
 | k+1,hk,es,a,b,ha,hw,h,hn=>by
   have hk':k≤steps.length:=by omega
   have hb:=CS hok hk hw h ha
   rcases Classical.em (jW k es) with hin|hin
   ·have hs:=ql hok hk' hin h
    rw[iL,if_pos hs]
    exact nP hk' ha hin h hn
   ·-- the first edge of the last step
    have hsplit:∃p e q,es=p++e::q∧jW k p∧e.step=k:=by
     clear h hn hb
     induction es with
     | nil=>exact absurd (fun e he=>by simp at he) hin
     | cons e es ih=>
       have he:=hw e (by simp)
       rcases Nat.lt_or_ge e.step k with h1|h1
       ·obtain⟨p,x,q,e1,e2,e3⟩:=ih (fun x hx=>hw x (List.mem_cons_of_mem _ hx)) (fun hin2=>hin fun x hx=>by
         rcases List.mem_cons.1 hx with e4|e4
         ·rw[e4];exact h1
         ·exact hin2 x e4)
        refine⟨e::p,x,q,by rw[e1];rfl,fun y hy=>?_,e3⟩
        rcases List.mem_cons.1 hy with e4|e4
        ·rw[e4];exact h1
        ·exact e2 y e4
       ·exact⟨[],e,es,rfl,fun x hx=>by simp at hx,by omega⟩
    obtain⟨p,e,q,rfl,hp,hek⟩:=hsplit
    obtain⟨m,w1,w2⟩:=oM.1 h
    obtain⟨w3,w4⟩:=w2
    subst w3
    have hve:dv steps a (p++e::q)=dv steps a p++dv steps (hQ steps e) q:=by simp[dv]
    rw[hve] at hn
    obtain⟨n1,n2,n3⟩:=List.nodup_append.1 hn
    have hq:jW k q:=by
     intro x hx
     have hx1:=hw x (by simp[hx])
     rcases Nat.lt_or_ge x.step k with h1|h1
     ·exact h1
     ·exfalso
      have hxk:x.step=k:=by omega
      obtain⟨q1,q2,rfl⟩:=List.append_of_mem hx
      obtain⟨m2,u1,u2⟩:=oM.1 w4
      obtain⟨u3,u4⟩:=u2
      have hs1:fA steps e∈dv steps a p:=Ei w1
      have hne:hQ steps x≠hQ steps e:=by
       intro he
       have:(hQ steps e::(q1.map (hQ steps)++hQ steps x::q2.map (hQ steps))).Nodup:=by simpa[dv] using n2
       have:=(List.nodup_cons.1 this).1
       exact this (by simp[he])
      have hne2:hQ steps x≠fA steps e:=by
       intro he
       exact n3 _ hs1 _ (by simp[dv]:hQ steps x∈dv steps (hQ steps e) (q1++x::q2)) he.symm
      unfold hQ at hne hne2
      unfold fA at hne2
      rw[hxk,hek] at hne hne2
      cases h5:x.back<;>cases h6:e.back<;>simp[h5,h6] at hne hne2
    have hlt:fA steps e<parts.length:=CS hok hk' hp w1 ha
    have hlt2:hQ steps e<parts.length:=xA hok (by omega)
    have hok2:=(p9 hok (k:=k) (by omega)).ne
    have i1:=nP hk' ha hp w1 n1
    have i2:=nP hk' hlt2 hq w4 n2
    have s1:=ql hok hk' hp w1
    have s2:=ql hok hk' hq w4
    rw[iL]
    unfold fA at i1 s1
    unfold hQ at i2 s2
    rw[hek] at i1 i2 s1 s2
    obtain⟨st,bk⟩:=e
    simp only at hek
    subst hek
    cases bk
    ·simp only[Bool.false_eq_true,if_false,vA,vB] at i1 i2 s1 s2
     rw[if_neg (by rw[s1,←s2];exact hok2),if_pos s1,←i1,←i2]
    ·simp only[if_true,vA,vB] at i1 i2 s1 s2
     rw[if_neg (by rw[s1,←s2];exact fun h=>hok2 h.symm),if_neg (by rw[s1];exact fun h=>hok2 h.symm),←i1,←i2]
theorem rU:∀{k:Nat},k≤steps.length→∀{a b:Nat},a<parts.length→b<parts.length→cl (az parts.length steps k) a=cl (az parts.length steps k) b →
 jW k (iL parts.length steps k a b)∧ni steps a (iL parts.length steps k a b) b∧(dv steps a (iL parts.length steps k a b)).Nodup
 | 0,_,a,b,ha,hb,h=>by
   have e:∀i,i<parts.length→cl (az parts.length steps 0) i=i:=fun i hi=>by
    rw[fh (by rw[fu];exact hi)]
    simp[az]
   rw[e a ha,e b hb] at h
   subst h
   exact⟨fun x hx=>by simp[iL] at hx,rfl,by simp[iL,dv]⟩
 | k+1,hk,a,b,ha,hb,h=>by
   have hk':k≤steps.length:=by omega
   have up:∀{es:List Edge},jW k es→jW (k+1) es:=fun hw e he=>Nat.lt_succ_of_lt (hw e he)
   rw[Lx (by omega) ha hb] at h
   have hA:=DT hok (k:=k) (by omega)
   have hB:=E5 hok (k:=k) (by omega)
   have hne:=(p9 hok (k:=k) (by omega)).ne
   rw[iL]
   rcases Classical.em (cl (az parts.length steps k) a=cl (az parts.length steps k) b) with h1|h1
   ·rw[if_pos h1]
    obtain⟨i1,i2,i3⟩:=rU hk' ha hb h1
    exact⟨up i1,i2,i3⟩
   ·rw[if_neg h1]
    rcases h with h|⟨h,h'⟩|⟨h,h'⟩
    ·exact(h1 h).elim
    ·rw[if_pos (show _=cl _ (fS steps k).A.toNat from h)]
     obtain⟨i1,i2,i3⟩:=rU hk' ha hA h
     obtain⟨j1,j2,j3⟩:=rU hk' hB hb h'.symm
     refine⟨?_,oM.2 ⟨_,i2,rfl,j2⟩,?_⟩
     ·intro x hx
      rcases List.mem_append.1 hx with e|e
      ·exact up i1 x e
      ·rcases List.mem_cons.1 e with e|e
       ·rw[e];exact Nat.lt_succ_self k
       ·exact up j1 x e
     ·have hve:dv steps a (iL parts.length steps k a (vA steps k)++⟨k,false⟩::iL parts.length steps k (vB steps k) b)=dv steps a (iL parts.length steps k a (vA steps k))++dv steps (vB steps k) (iL parts.length steps k (vB steps k) b):=by simp[dv,hQ]
      refine hve▸List.nodup_append.2 ⟨i3,j3,fun x hx y hy e=>?_⟩
      have s1:=kI hok hk' i1 i2 x hx
      have s2:=kI hok hk' j1 j2 y hy
      rw[←e,s1] at s2
      exact hne (h.symm.trans s2)
    ·have h2:¬cl (az parts.length steps k) a=cl (az parts.length steps k) (fS steps k).A.toNat:=fun h3=>hne (h3.symm.trans h)
     rw[if_neg h2]
     obtain⟨i1,i2,i3⟩:=rU hk' ha hB h
     obtain⟨j1,j2,j3⟩:=rU hk' hA hb h'.symm
     refine⟨?_,oM.2 ⟨_,i2,rfl,j2⟩,?_⟩
     ·intro x hx
      rcases List.mem_append.1 hx with e|e
      ·exact up i1 x e
      ·rcases List.mem_cons.1 e with e|e
       ·rw[e];exact Nat.lt_succ_self k
       ·exact up j1 x e
     ·have hve:dv steps a (iL parts.length steps k a (vB steps k)++⟨k,true⟩::iL parts.length steps k (vA steps k) b)=dv steps a (iL parts.length steps k a (vB steps k))++dv steps (vA steps k) (iL parts.length steps k (vA steps k) b):=by simp[dv,hQ]
      refine hve▸List.nodup_append.2 ⟨i3,j3,fun x hx y hy e=>?_⟩
      have s1:=kI hok hk' i1 i2 x hx
      have s2:=kI hok hk' j1 j2 y hy
      rw[←e,s1] at s2
      exact h2 s2
end
end Go.Mod
namespace Go.Mod
open Go.Eng
set_option maxRecDepth 100000
def da(disc:List (Nat×Edge)):List Nat:=disc.map Prod.fst
structure QS(N:Nat)(steps:List Step)(n from_:Nat)(disc:List (Nat×Edge)):Prop where
 head:(da disc)[0]?=some from_
 NR:(da disc).Nodup
 lt:∀v∈da disc,v<N
 SX:∀(j:Nat)(v:Nat)(e:Edge),disc[j]?=some (v,e)→0<j→e.step<n∧hQ steps e=v∧∃i,i<j∧(da disc)[i]?=some (fA steps e)
def Seen(steps:List Step)(n:Nat)(disc:List (Nat×Edge))(v:Nat):Prop:=∀k,k<n→(vA steps k=v→vB steps k∈da disc)∧(vB steps k=v→vA steps k∈da disc)
def np(steps:List Step)(n:Nat)(disc:List (Nat×Edge))(i:Nat):Prop:=∀j v,j<i→(da disc)[j]?=some v→Seen steps n disc v
theorem pO{N:Nat}:∀{l:List Nat},l.Nodup→(∀v∈l,v<N)→l.length≤N:=by
 intro l h1 h2
 have:=(List.nodup_range (n:=N))
 have hs:l.length≤(List.range N).length:=List.Nodup.length_le_of_subset h1 fun v hv=>List.mem_range.2 (h2 v hv)
 simpa using hs
theorem mG(disc:List (Nat×Edge)):(da disc).length=disc.length:=by simp[da]
theorem dB(a b:List (Nat×Edge)):da (a++b)=da a++da b:=by simp[da]
theorem I3{N:Nat}{steps:List Step}{n f:Nat}{disc:List (Nat×Edge)}(h:QS N steps n f disc):disc.length≤N:=by
 rw[←mG]
 exact pO h.NR h.lt
theorem Jt{N:Nat}{steps:List Step}{n f:Nat}(hf:f<N)(e:Edge):QS N steps n f [(f,e)]:=
 ⟨rfl,by simp[da],fun v hv=>by simp[da] at hv;omega,fun j v e h hj=>by
  cases j with
  | zero=>omega
  | succ j=>simp at h⟩
theorem Jn{N:Nat}{steps:List Step}{n f:Nat}{disc:List (Nat×Edge)}(h:QS N steps n f disc){e:Edge}{i v:Nat}(he:e.step<n)(hi:(da disc)[i]?=some v)(hs:fA steps e=v)(hn:hQ steps e∉da disc)(hlt:hQ steps e<N) :
 QS N steps n f (disc++[(hQ steps e,e)]):=by
 have hl:=mG disc
 have hi2:i<disc.length:=by rw[←hl];exact(List.getElem?_eq_some_iff.1 hi).1
 refine⟨?_,?_,?_,?_⟩
 ·rw[dB,List.getElem?_append_left (by omega)];exact h.head
 ·rw[dB]
  refine List.nodup_append.2 ⟨h.NR,by simp[da],fun x hx y hy e1=>?_⟩
  simp only[da,List.map_cons,List.map_nil,List.mem_cons,List.not_mem_nil,or_false] at hy
  rw[e1,hy] at hx
  exact hn hx
 ·intro x hx
  rw[dB] at hx
  rcases List.mem_append.1 hx with hx|hx
  ·exact h.lt x hx
  ·simp only[da,List.map_cons,List.map_nil,List.mem_cons,List.not_mem_nil,or_false] at hx
   omega
 ·intro j w x hx hj
  rcases Nat.lt_trichotomy j disc.length with h1|h1|h1
  ·rw[List.getElem?_append_left h1] at hx
   obtain⟨a1,a2,k,a3,a4⟩:=h.SX j w x hx hj
   exact⟨a1,a2,k,a3,by rw[dB,List.getElem?_append_left (by omega)];exact a4⟩
  ·subst h1
   rw[List.getElem?_append_right (Nat.le_refl _)] at hx
   simp only[Nat.sub_self,List.getElem?_cons_zero,Option.some.injEq,Prod.mk.injEq] at hx
   obtain⟨rfl,rfl⟩:=hx
   exact⟨he,rfl,i,hi2,by rw[dB,List.getElem?_append_left (by omega),hi,hs]⟩
  ·rw[List.getElem?_eq_none (by simp;omega)] at hx
   cases hx
theorem AY{steps:List Step}{n:Nat}{a b:List (Nat×Edge)}{v:Nat}(h:Seen steps n a v):Seen steps n (a++b) v:=fun k hk=>by
 rw[dB]
 exact⟨fun e=>List.mem_append_left _ ((h k hk).1 e),fun e=>List.mem_append_left _ ((h k hk).2 e)⟩
theorem uc{steps:List Step}{n:Nat}{a b:List (Nat×Edge)}{i:Nat}(hi:i≤a.length)(h:np steps n a i):np steps n (a++b) i:=fun j v hj hv=>by
 rw[dB,List.getElem?_append_left (by rw[mG];omega)] at hv
 exact AY (h j v hj hv)
theorem Cp{steps:List Step}{n:Nat}{disc:List (Nat×Edge)}{i v:Nat}(h:np steps n disc i)(hv:(da disc)[i]?=some v)(hs:Seen steps n disc v):np steps n disc (i+1):=fun j w hj hw=>by
 rcases Nat.lt_or_ge j i with h1|h1
 ·exact h j w h1 hw
 ·obtain rfl:j=i:=by omega
  rw[hv] at hw
  obtain rfl:=Option.some.inj hw
  exact hs
theorem tg{steps:List Step}{n:Nat}{disc:List (Nat×Edge)}(h:np steps n disc disc.length):∀{es:List Edge}{a b:Nat},jW n es→ni steps a es b→a∈da disc→b∈da disc
 | [],a,b,_,hw,ha=>by simp only[ni] at hw;rw[←hw];exact ha
 | e::es,a,b,hi,hw,ha=>by
   obtain⟨j,hj,hj2⟩:=List.mem_iff_getElem.1 ha
   have hs:=h j a (by rw[←mG];exact hj) (by rw[List.getElem?_eq_getElem hj,hj2])
   have he:=hi e (by simp)
   refine tg h (fun x hx=>hi x (List.mem_cons_of_mem _ hx)) hw.2 ?_
   have h1:=hw.1
   unfold fA at h1
   unfold hQ
   cases hb:e.back
   ·rw[hb] at h1
    simp only[Bool.false_eq_true,if_false] at h1⊢
    exact(hs e.step he).1 h1
   ·rw[hb] at h1
    simp only[if_true] at h1⊢
    exact(hs e.step he).2 h1
structure Lt(steps:List Step)(n to:Nat)(disc:List (Nat×Edge))(j t:Nat)(out:List Edge):Prop where
 at_:(da disc)[j]?=some t
 SM:jW n out.reverse
 walk:ni steps t out.reverse to
 NR:(dv steps t out.reverse).Nodup
 zW:∀w∈out.reverse.map (hQ steps),∃i,j<i∧(da disc)[i]?=some w
theorem HC{steps:List Step}{n to:Nat}{disc:List (Nat×Edge)}{j:Nat}(h:(da disc)[j]?=some to):Lt steps n to disc j to []:=
 ⟨h,fun e he=>by simp at he,rfl,by simp[dv],fun w hw=>by simp at hw⟩
theorem LC{l:List Nat}(h:l.Nodup){i j v:Nat}(hi:l[i]?=some v)(hj:l[j]?=some v):i=j:=by
 obtain⟨h1,h2⟩:=List.getElem?_eq_some_iff.1 hi
 obtain⟨h3,h4⟩:=List.getElem?_eq_some_iff.1 hj
 exact(List.getElem_inj h).1 (h2.trans h4.symm)
theorem Jv{N:Nat}{steps:List Step}{n f to:Nat}{disc:List (Nat×Edge)}{j t:Nat}{out:List Edge}{e:Edge}(hm:QS N steps n f disc)(h:Lt steps n to disc j t out)(he:disc[j]?=some (t,e))(hj:0<j) :
 ∃i,i<j∧Lt steps n to disc i (fA steps e) (out++[e]):=by
 obtain⟨h1,h2,i,h3,h4⟩:=hm.SX j t e he hj
 have zW:∀w∈(out++[e]).reverse.map (hQ steps),∃k,i<k∧(da disc)[k]?=some w:=by
  intro w hw
  simp only[List.reverse_append,List.reverse_cons,List.reverse_nil,List.nil_append,List.cons_append,List.map_cons,List.mem_cons] at hw
  rcases hw with e1|hw
  ·exact⟨j,h3,by rw[e1,h2];exact h.at_⟩
  ·obtain⟨k,k1,k2⟩:=h.zW w hw
   exact⟨k,by omega,k2⟩
 refine⟨i,h3,h4,?_,?_,?_,zW⟩
 ·intro x hx
  simp only[List.reverse_append,List.reverse_cons,List.reverse_nil,List.nil_append,List.cons_append,List.mem_cons] at hx
  rcases hx with e1|hx
  ·rw[e1];exact h1
  ·exact h.SM x hx
 ·simp only[List.reverse_append,List.reverse_cons,List.reverse_nil,List.nil_append,List.cons_append,ni,true_and]
  rw[h2]
  exact h.walk
 ·refine List.nodup_cons.2 ⟨fun hmem=>?_,?_⟩
  ·obtain⟨k,k1,k2⟩:=zW _ hmem
   have:=LC hm.NR h4 k2
   omega
  ·have:=h.NR
   simp only[List.reverse_append,List.reverse_cons,List.reverse_nil,List.nil_append,List.cons_append,List.map_cons]
   rw[h2]
   exact this
theorem K5{parts:List Term}{eqs:List gk}{steps:List Step}{n f to:Nat}{disc:List (Nat×Edge)}{j:Nat}{out:List Edge}(hok:ke parts eqs steps)(hn:n≤steps.length)(hf:f<parts.length)(h:Lt steps n to disc j f out):out.reverse=iL parts.length steps n f to:=
 nP hok hn hf h.SM h.walk h.NR
end Go.Mod
namespace Go.Mod
open Go.Eng
set_option maxRecDepth 100000
theorem kP{α:Type}{l:List α}{i:Nat}{d:α}(h:i<l.length):l.getD i d∈l:=by
 rw[List.getD_eq_getElem?_getD,List.getElem?_eq_getElem h]
 exact List.getElem_mem h
theorem dN{α:Type}{l:List α}{i:Nat}{d:α}(h:i<l.length):l.getD i d=l[i]:=by
 rw[List.getD_eq_getElem?_getD,List.getElem?_eq_getElem h]
 rfl
structure Eb(n:Nat)(r:bC):Prop where
 lx:bR r.lx=true
 len:r.fI.length=n
 bd:∀u∈r.fI,0≤u∧u≤1000000
def GV(n:Nat)(rows:List bC):Prop:=rows.length≤200∧∀r∈rows,Eb n r
theorem Eb.O3{n:Nat}{r:bC}(h:Eb n r)(v:Nat):-1000000≤bf r v∧bf r v≤1000000:=by
 obtain⟨h1,h2,_⟩:=fy.1 h.lx
 unfold bf
 rcases Nat.lt_or_ge v r.lx.an.length with h3|h3
 ·exact h2 _ (kP h3)
 ·rw[List.getD_eq_getElem?_getD,List.getElem?_eq_none h3]
  exact⟨by decide,by decide⟩
theorem J6(n i:Nat):(oo n i).length=n:=by simp[oo]
theorem Lj{n i:Nat}:∀u∈oo n i,0≤u∧u≤1000000:=by
 intro u hu
 rcases List.mem_or_eq_of_mem_set hu with h|h
 ·rw[(List.mem_replicate.1 h).2];omega
 ·rw[h];omega
theorem CC(ls:List eQ):(aR ls).length=ls.length:=by simp[aR]
theorem ET{ls:List eQ}(h:dC ls=true):GV ls.length (aR ls):=by
 simp only[dC,Bool.and_eq_true,decide_eq_true_eq,List.all_eq_true] at h
 refine⟨by rw[CC];omega,fun r hr=>?_⟩
 simp only[aR,List.mem_map,List.mem_range] at hr
 obtain⟨i,hi,rfl⟩:=hr
 exact⟨h.2 _ (kP hi),J6 _ _,Lj⟩
theorem Iy{n:Nat}{a b:bC}{v:Nat}(ha:Eb n a)(hb:Eb n b)(h1:0<bf a v)(h2:bf b v<0) :
 (1≤ue a b v∧ue a b v≤1000000)∧(1≤oI a b v∧oI a b v≤1000000)∧(1≤pH a b v∧pH a b v≤1000000):=by
 have ca:=ha.O3 v
 have cb:=hb.O3 v
 have key:∀{x y:Int},0<x→0<y→x≤1000000→(1≤(Int.gcd x y:Int)∧(Int.gcd x y:Int)≤x)∧(1≤x.tdiv (Int.gcd x y)∧x.tdiv (Int.gcd x y)≤x):=by
  intro x y hx hy hm
  have g1:0<Int.gcd x y:=Int.gcd_pos_of_ne_zero_left _ (by omega)
  have g2:(Int.gcd x y:Int)∣x:=Int.gcd_dvd_left ..
  have g3:(Int.gcd x y:Int)≤x:=Int.le_of_dvd hx g2
  refine⟨⟨by omega,g3⟩,?_,?_⟩
  ·rw[Int.tdiv_eq_ediv_of_nonneg (by omega)]
   exact Int.le_ediv_of_mul_le (by omega) (by omega)
  ·rw[Int.tdiv_eq_ediv_of_nonneg (by omega)]
   exact Int.ediv_le_self _ (by omega)
 have k1:=key h1 (y:=-(bf b v)) (by omega) ca.2
 have k2:=key (x:=-(bf b v)) (y:=bf a v) (by omega) h1 (by omega)
 rw[Int.gcd_comm] at k2
 unfold oI pH ue
 omega
theorem Ix:∀{m n:Int}{as bs:List Int},(0≤m∧m≤1000000)→(0≤n∧n≤1000000)→(∀u∈as,0≤u∧u≤1000000)→(∀u∈bs,0≤u∧u≤1000000)→∀u∈comb m n as bs,0≤u∧u≤2000000000000
 | _,_,[],_,_,_,_,_,u,hu=>by simp[comb] at hu
 | _,_,_::_,[],_,_,_,_,u,hu=>by simp[comb] at hu
 | m,n,a::as,b::bs,hm,hn,h1,h2,u,hu=>by
   simp only[comb,List.mem_cons] at hu
   rcases hu with e|hu
   ·have ha:=h1 a (by simp)
    have hb:=h2 b (by simp)
    have p1:0≤m*a:=Int.mul_nonneg hm.1 ha.1
    have p2:0≤n*b:=Int.mul_nonneg hn.1 hb.1
    have p3:=(cK hm.1 hm.2 (b:=a) ⟨by omega,ha.2⟩).2
    have p4:=(cK hn.1 hn.2 (b:=b) ⟨by omega,hb.2⟩).2
    rw[e];omega
   ·exact Ix hm hn (fun x hx=>h1 x (List.mem_cons_of_mem _ hx)) (fun x hx=>h2 x (List.mem_cons_of_mem _ hx)) u hu
theorem KE{a b:eQ}{m n:Int}(h:(cS a m b n).2=true):bR (cS a m b n).1=true:=by
 unfold cS lB at h⊢
 split
 ·rename_i h1
  rw[if_pos h1] at h
  split
  ·rename_i h2;exact h2
  ·rename_i h2;rw[if_neg h2] at h;cases h
 ·rename_i h1;rw[if_neg h1] at h;cases h
theorem MN{n:Nat}{a b:bC}{v:Nat}(ha:Eb n a)(hb:Eb n b)(h1:0<bf a v)(h2:bf b v<0)(h:u7 a b v=true):Eb n (FA a b v):=by
 simp only[u7,Bool.and_eq_true,List.all_eq_true,decide_eq_true_eq] at h
 obtain⟨_,hp,hq⟩:=Iy ha hb h1 h2
 refine⟨KE h.1,?_,fun u hu=>⟨?_,h.2 u hu⟩⟩
 ·show(comb _ _ _ _).length=n
  rw[jA (by rw[ha.len,hb.len]),ha.len]
 ·exact(Ix ⟨by omega,hq.2⟩ ⟨by omega,hp.2⟩ ha.bd hb.bd u hu).1
theorem F5{a:bC}{v:Nat}{rows:List bC}{p:bC×bC}(h:p∈nb a v rows):p.1=a∧p.2∈rows∧0<bf p.1 v∧bf p.2 v<0:=by
 simp only[nb,List.mem_filterMap] at h
 obtain⟨b,hb,e⟩:=h
 split at e
 ·rename_i hc
  simp only[Option.some.injEq] at e
  rw[←e]
  exact⟨rfl,hb,hc.1,hc.2⟩
 ·cases e
theorem vZ{n v:Nat}:∀{ps:List (bC×bC)}{out r:List bC},(∀p∈ps,Eb n p.1∧Eb n p.2∧0<bf p.1 v∧bf p.2 v<0)→GV n out→iG v ps out=some r→GV n r
 | [],out,r,_,ho,h=>by
   simp only[iG,Option.some.injEq] at h
   rw[←h];exact ho
 | (a,b)::ps,out,r,hp,ho,h=>by
   rw[iG] at h
   split at h
   ·rename_i hc
    obtain⟨g1,g2,g3,g4⟩:=hp (a,b) (by simp)
    refine vZ (fun p hq=>hp p (List.mem_cons_of_mem _ hq)) ⟨by simp;omega,fun x hx=>?_⟩ h
    rcases List.mem_append.1 hx with e|e
    ·exact ho.2 x e
    ·simp only[List.mem_cons,List.not_mem_nil,or_false] at e
     rw[e]
     exact MN g1 g2 g3 g4 hc.1
   ·cases h
theorem Jw{n v:Nat}{all rows:List bC}(h1:∀r∈all,Eb n r)(h2:∀r∈rows,Eb n r):∀p∈nD all rows v,Eb n p.1∧Eb n p.2∧0<bf p.1 v∧bf p.2 v<0:=by
 intro p hp
 simp only[nD,List.mem_flatMap] at hp
 obtain⟨a,ha,hb⟩:=hp
 obtain⟨e1,e2,e3,e4⟩:=F5 hb
 exact⟨e1▸h2 a ha,h1 _ e2,e3,e4⟩
theorem gq{n v:Nat}{rows r:List bC}(h:GV n rows)(hr:fH rows v=some r):GV n r:=
 vZ (Jw h.2 h.2) ⟨Nat.le_trans (List.length_filter_le _ _) h.1,fun x hx=>h.2 x (List.mem_filter.1 hx).1⟩ hr
theorem Ej{a:bC}{v j:Nat}{rows:List bC}(h:j<rows.length):nb a v (rows.drop j)=(if 0<bf a v∧bf rows[j] v<0 then [(a,rows[j])] else [])++nb a v (rows.drop (j+1)):=by
 unfold nb
 rw[List.drop_eq_getElem_cons h,List.filterMap_cons]
 split<;>simp_all
theorem EU{v i:Nat}{all rows:List bC}(h:i<rows.length):nD all (rows.drop i) v=nb rows[i] v all++nD all (rows.drop (i+1)) v:=by
 unfold nD
 rw[List.drop_eq_getElem_cons h,List.flatMap_cons]
theorem FJ{α:Type}{p:α→Bool}{l:List α}{i:Nat}(h:i<l.length):(l.take (i+1)).filter p=(l.take i).filter p++(if p l[i] then [l[i]] else []):=by
 rw[List.take_add_one,List.getElem?_eq_getElem h,List.filter_append]
 congr 1
 simp only[Option.toList_some,List.filter_cons,List.filter_nil]
theorem nq(xs:List Rat)(sum:Rat):eu [] xs sum=some sum:=by cases xs<;>rfl
theorem FX(v i:Nat)(xs:List Rat)(sum:Rat):mE v i [] xs sum=some sum:=by cases xs<;>rfl
theorem Fa{v i:Nat}{cs:List Int}{xs:List Rat}(h:i<cs.length)(h':i<xs.length)(sum:Rat):mE v i (cs.drop i) (xs.drop i) sum=if i=v then mE v (i+1) (cs.drop (i+1)) (xs.drop (i+1)) sum else if(plus sum (-cs[i]) xs[i]).2 then mE v (i+1) (cs.drop (i+1)) (xs.drop (i+1)) (plus sum (-cs[i]) xs[i]).1 else none:=by
 rw[List.drop_eq_getElem_cons h,List.drop_eq_getElem_cons h',mE]
theorem Ep{i:Nat}{cs:List Int}{xs:List Rat}(h:i<cs.length)(h':i<xs.length)(sum:Rat):eu (cs.drop i) (xs.drop i) sum=if(plus sum cs[i] xs[i]).2 then eu (cs.drop (i+1)) (xs.drop (i+1)) (plus sum cs[i] xs[i]).1 else none:=by
 rw[List.drop_eq_getElem_cons h,List.drop_eq_getElem_cons h',eu]
theorem DV{v i:Nat}{aw:List Rat}{rows:List bC}(h:i<rows.length)(lo hi:Option Rat):jO v aw (rows.drop i) lo hi=if bf rows[i] v=0 then jO v aw (rows.drop (i+1)) lo hi else match iE rows[i].lx v aw with
 | none=>none
 | some b=>if 0<bf rows[i] v then jO v aw (rows.drop (i+1)) lo (if lower b hi then some b else hi) else jO v aw (rows.drop (i+1)) (if upper b lo then some b else lo) hi:=by
 rw[List.drop_eq_getElem_cons h,jO]
 try rfl
theorem wz{n d:Int}(h:(eh n d).2=false):(eh n d).1=jx:=by
 unfold eh at h⊢
 split
 ·rfl
 ·rename_i h0
  rw[if_neg h0] at h
  simp only at h⊢
  generalize (⟨_,_⟩:Rat)=x at h⊢
  cases hx:aS x
  ·simp
  ·simp[hx] at h
theorem vV{a b:Rat}(h:(c7 a b).2=false):(c7 a b).1=jx:=by
 unfold c7 at h⊢
 split
 ·rename_i h0;rw[if_pos h0] at h;exact wz h
 ·rfl
theorem vM{a b:Rat}(h:(dh a b).2=false):(dh a b).1=jx:=by
 unfold dh at h⊢
 split
 ·rename_i h0;rw[if_pos h0] at h;exact wz h
 ·rfl
theorem Fe{a b:Rat}(h:(oQ a b).2=false):(oQ a b).1=jx:=by
 unfold oQ at h⊢
 split
 ·rename_i h0;rw[if_pos h0] at h;exact vM h
 ·rfl
theorem A0{x:Rat×Bool}(h:x.2=false→x.1=jx):(HJ x).getD jx=x.1∧(HJ x).isSome=x.2:=by
 unfold HJ
 cases hx:x.2
 ·rw[if_neg (by simp),h hx];exact⟨rfl,rfl⟩
 ·rw[if_pos rfl];exact⟨rfl,rfl⟩
theorem CD:∀{l h:Option Rat},(tI l h).2=false→(tI l h).1=jx
 | some _,some _,h=>Fe h
 | none,some _,h=>vV h
 | some _,none,h=>vV h
 | none,none,h=>by cases h
theorem lZ{rows:List bC}{v:Nat}{aw:List Rat}{st:List (List bC)}(h:valueOf rows v aw=none):gp (rows::st) v aw=none:=by
 rw[gp,h]
theorem lV{rows:List bC}{v:Nat}{aw:List Rat}{st:List (List bC)}{x:Rat}(h:valueOf rows v aw=some x):gp (rows::st) v aw=gp st (v+1) (aw.set v x):=by
 rw[gp,h]
theorem FT{l:List Rat}{i:Nat}{x:Rat}:(aM l).set i (dp x)=aM (l.set i x):=by simp[aM,List.map_set]
theorem lC{l:List Rat}{i:Nat}{x:Rat}(h:i<l.length):(aM l).set i (mg (row (aM l) i) 0 [.val (.int .i64 x.N),.val (.int .i64 x.D)])=aM (l.set i x):=by
 rw[vT h,←FT]
 rfl
end Go.Mod
namespace Go.Mod
open Go.Eng
set_option maxRecDepth 100000
theorem fO{s n:Nat}{p:Nat×Nat}:p∈bq s n↔s≤p.1∧p.1<p.2∧p.2<n:=by
 obtain⟨i,k⟩:=p
 simp only[bq,List.mem_flatMap,List.mem_map,List.mem_range'_1,Prod.mk.injEq]
 constructor
 ·rintro⟨i',h1,k',h2,rfl,rfl⟩;omega
 ·rintro⟨h1,h2,h3⟩
  exact⟨i,by omega,k,by omega,rfl,rfl⟩
theorem wR{i n:Nat}(h:i<n):bq i n=(List.range' (i+1) (n-(i+1))).map (fun k=>(i,k))++bq (i+1) n:=by
 unfold bq
 rw[jr h]
 rfl
theorem oH{i n:Nat}(h:n≤i):bq i n=[]:=by
 unfold bq
 rw[kz h]
 rfl
theorem iB{n:Nat}{p:Nat→Nat→Bool}{q:Nat×Nat}(h:bj n p=some q):q.1<q.2∧q.2<n∧p q.1 q.2=true:=by
 have h1:=List.find?_some h
 have h2:=fO.1 (List.mem_of_find?_eq_some h)
 exact⟨h2.2.1,h2.2.2,h1⟩
theorem oZ{n:Nat}{p:Nat→Nat→Bool}(h:bj n p=none){i k:Nat}(h1:i<k)(h2:k<n):p i k=false:=by
 have:=List.find?_eq_none.1 h (i,k) (fO.2 ⟨Nat.zero_le _,h1,h2⟩)
 simpa using this
theorem countP_le{α:Type}{p q:α→Bool}:∀{l:List α},(∀x∈l,p x=true→q x=true)→l.countP p≤l.countP q
 | [],_=>Nat.le_refl _
 | x::l,h=>by
   have:=countP_le (l:=l) fun y hy=>h y (List.mem_cons_of_mem _ hy)
   have hx:=h x (by simp)
   simp only[List.countP_cons]
   cases hp:p x
   ·simp;omega
   ·simp[hx hp];omega
theorem vh{α:Type}{p q:α→Bool}:∀{l:List α}{x:α},(∀x∈l,p x=true→q x=true)→x∈l→p x=false→q x=true→l.countP p<l.countP q
 | y::l,x,h,hx,hp,hq=>by
   simp only[List.countP_cons]
   rcases List.mem_cons.1 hx with e|e
   ·have:=countP_le (l:=l) fun y hy=>h y (List.mem_cons_of_mem _ hy)
    rw[←e,hp,hq]
    simp;omega
   ·have:=vh (l:=l) (fun y hy=>h y (List.mem_cons_of_mem _ hy)) e hp hq
    have hy:=h y (by simp)
    cases hpy:p y
    ·simp;omega
    ·simp[hy hpy];omega
theorem sL(nums:List Term)(out:List Nat)(e:gk):(b7 nums out e).length=out.length:=by
 unfold b7
 split<;>simp
theorem ko(nums:List Term)(eqs:List gk):(dR nums eqs).length=nums.length:=by
 unfold dR
 have:∀(l:List gk)(c:List Nat),(l.foldl (b7 nums) c).length=c.length:=by
  intro l
  induction l with
  | nil=>intro c;rfl
  | cons s l ih=>intro c;rw[List.foldl_cons,ih,sL]
 rw[this,List.length_range]
theorem yo(nums:List Term)(eqs:List gk)(e:gk):dR nums (eqs++[e])=b7 nums (dR nums eqs) e:=by
 rw[dR,List.foldl_append];rfl
theorem zS{nums:List Term}{out:List Nat}{e:gk}{i k:Nat}(hi:i<out.length)(hk:k<out.length)(h:cl out i=cl out k):cl (b7 nums out e) i=cl (b7 nums out e) k:=by
 unfold b7
 split
 ·exact h
 ·rw[rD hi,rD hk,h]
theorem Ba(a b:List aE):aI (a++b)=aI a++aI b:=by simp[aI]
theorem FP(a b:Term):aI [eE a b]=[⟨a,b⟩]:=rfl
theorem E7{nums:List Term}{lits more:List aE}{i k:Nat}(hi:i<nums.length)(hk:k<nums.length)(h:linked nums lits i k=true):linked nums (lits++more) i k=true:=by
 simp only[linked,decide_eq_true_eq] at h⊢
 rw[Ba]
 generalize aI more=es
 generalize aI lits=ds at h
 induction es generalizing ds with
 | nil=>rw[List.append_nil];exact h
 | cons e es ih=>
   have:=ih (ds++[e]) (by
    rw[yo]
    exact zS (by rw[ko];exact hi) (by rw[ko];exact hk) h)
   rw[List.append_assoc] at this
   exact this
theorem gG{nums:List Term}(hn:nums.Nodup){i:Nat}(hi:i<nums.length):aF nums nums[i]=i:=by
 have hm:nums[i]∈nums:=List.getElem_mem hi
 have h1:=eX hm
 have h2:=bl.2 hm
 obtain⟨h3,h4⟩:=List.getElem?_eq_some_iff.1 h1
 have:=(List.getElem_inj hn).1 h4
 omega
theorem db{nums:List Term}{i:Nat}(hi:i<nums.length):nums.getD i ao=nums[i]:=by
 rw[List.getD_eq_getElem?_getD,List.getElem?_eq_getElem hi];rfl
theorem G6{nums:List Term}(hn:nums.Nodup){lits:List aE}{i k:Nat}(hi:i<nums.length)(hk:k<nums.length):linked nums (lits++[eE (nums.getD i ao) (nums.getD k ao)]) i k=true:=by
 simp only[linked,decide_eq_true_eq]
 rw[Ba,FP,yo,b7,db hi,db hk]
 have e1:=gG hn hi
 have e2:=gG hn hk
 simp only[e1,e2,al,Int.toNat_natCast]
 rw[if_neg (by omega),rD (by rw[ko];exact hi),rD (by rw[ko];exact hk)]
 simp
theorem wq{nums:List Term}{lits more:List aE}{i k:Nat}(h:cu nums lits i k=true):cu nums (lits++more) i k=true:=by
 simp only[cu,List.any_append,Bool.or_eq_true] at h⊢
 exact .inl h
theorem HE(a b:Term):(ct a b).no=false:=by
 unfold ct
 split<;>rfl
theorem x8{nums:List Term}{lits:List aE}{i k:Nat}:cu nums (lits++[ct (nums.getD i ao) (nums.getD k ao)]) i k=true:=by
 simp[cu,HE]
def jQ(nums:List Term)(lits:List aE)(i k:Nat):Bool:=!linked nums lits i k&&(!cu nums lits i k&& !cu nums lits k i)
def room(nums:List Term)(lits:List aE):Nat:=(bq 0 nums.length).countP (fun q=>!linked nums lits q.1 q.2)+(bq 0 nums.length).countP (fun q=>jQ nums lits q.1 q.2)
theorem nQ{nums:List Term}{lits more:List aE}:∀q∈bq 0 nums.length,(!linked nums (lits++more) q.1 q.2)=true→(!linked nums lits q.1 q.2)=true:=by
 intro q hq h
 have hm:=fO.1 hq
 cases hl:linked nums lits q.1 q.2
 ·rfl
 ·rw[E7 (by omega) (by omega) hl] at h;cases h
theorem EE{nums:List Term}{lits more:List aE}:∀q∈bq 0 nums.length,jQ nums (lits++more) q.1 q.2=true→jQ nums lits q.1 q.2=true:=by
 intro q hq h
 simp only[jQ,Bool.and_eq_true] at h⊢
 refine⟨nQ q hq h.1,?_,?_⟩
 ·cases hl:cu nums lits q.1 q.2
  ·rfl
  ·rw[wq hl] at h;simp at h
 ·cases hl:cu nums lits q.2 q.1
  ·rfl
  ·have:=h.2.2;rw[wq hl] at this;cases this
theorem N3{nums:List Term}(hn:nums.Nodup){lits:List aE}{i k:Nat}(h1:i<k)(h2:k<nums.length)(h:linked nums lits i k=false):room nums (lits++[eE (nums.getD i ao) (nums.getD k ao)])<room nums lits:=by
 unfold room
 have a:=vh (x:=(i,k)) (nQ (more:=[eE (nums.getD i ao) (nums.getD k ao)])) (fO.2 ⟨Nat.zero_le _,h1,h2⟩) (by show(!linked nums (lits++[eE (nums.getD i ao) (nums.getD k ao)]) i k)=false;rw[G6 hn (show i<nums.length by omega) h2];rfl) (by rw[h];rfl)
 have b:=countP_le (EE (nums:=nums) (lits:=lits) (more:=[eE (nums.getD i ao) (nums.getD k ao)]))
 omega
theorem Bo{nums:List Term}{lits:List aE}{i k:Nat}(h1:i<k)(h2:k<nums.length)(h:jQ nums lits i k=true){l:aE}(hl:l=ct (nums.getD i ao) (nums.getD k ao)∨l=ct (nums.getD k ao) (nums.getD i ao)):room nums (lits++[l])<room nums lits:=by
 unfold room
 have a:=countP_le (nQ (nums:=nums) (lits:=lits) (more:=[l]))
 have b:=vh (x:=(i,k)) (EE (nums:=nums) (lits:=lits) (more:=[l])) (fO.2 ⟨Nat.zero_le _,h1,h2⟩) (by
  rcases hl with rfl|rfl
  ·simp only[jQ,x8];simp
  ·simp only[jQ,x8];simp) h
 omega
theorem room_le{nums:List Term}(h:nums.length≤4)(lits:List aE):room nums lits≤12:=by
 have a:=List.countP_le_length (p:=fun q:Nat×Nat=>!linked nums lits q.1 q.2) (l:=bq 0 nums.length)
 have b:=List.countP_le_length (p:=fun q:Nat×Nat=>jQ nums lits q.1 q.2) (l:=bq 0 nums.length)
 have c:(bq 0 nums.length).length≤6:=by
  have key:∀n,n≤4→(bq 0 n).length≤6:=by decide
  exact key _ h
 unfold room
 omega
end Go.Mod
namespace Go.Mod
open Go.Eng
set_option maxRecDepth 100000
def fL(parts:List Term):Prop:=∀t∈parts,∀k∈t.kids,k∈parts
theorem aU{parts:List Term}{t:Term}(h:t∈parts):al parts t<parts.length:=gJ h
theorem bo{parts:List Term}{t:Term}(h:t∈parts):aF parts t=(al parts t:Int):=by
 have:=bl.2 h
 unfold al
 omega
theorem Fl{parts:List Term}{c:List Nat}{xs ys:List Term}{i:Nat}(h:i<xs.length)(h':i<ys.length):gm parts c (xs.drop i) (ys.drop i)=(DN parts c xs[i] ys[i]&&gm parts c (xs.drop (i+1)) (ys.drop (i+1))):=by
 rw[List.drop_eq_getElem_cons h,List.drop_eq_getElem_cons h',gm]
theorem FY{parts:List Term}{c:List Nat}:gm parts c [] []=true:=rfl
theorem xO{parts:List Term}{c:List Nat}:∀{xs ys:List Term},xs.length≠ys.length→gm parts c xs ys=false
 | [],[],h=>(h rfl).elim
 | [],_::_,_=>rfl
 | _::_,[],_=>rfl
 | x::xs,y::ys,h=>by
   rw[gm,xO (by simpa using h),Bool.and_false]
def cG(c:List Nat)(from_ to i:Nat):List Nat:=((c.take i).map fun k=>if k=from_ then to else k)++c.drop i
theorem n5(c:List Nat)(f t i:Nat):(cG c f t i).length=c.length:=by simp[cG];omega
theorem od{c:List Nat}{f t i:Nat}(h:i<c.length)(h':i<(cG c f t i).length):(cG c f t i)[i]=c[i]:=by
 have:(cG c f t i)[i]?=some c[i]:=by
  unfold cG
  rw[List.getElem?_append_right (by simp;omega)]
  simp only[List.length_map,List.length_take,Nat.min_eq_left (Nat.le_of_lt h),Nat.sub_self,List.getElem?_drop,Nat.add_zero]
  exact List.getElem?_eq_getElem h
 exact(List.getElem?_eq_some_iff.1 this).2
theorem lA{c:List Nat}{f t i:Nat}(h:i<c.length):cG c f t (i+1)=(cG c f t i).set i (if c[i]=f then t else c[i]):=by
 have e:((c.take i).map fun k=>if k=f then t else k).length=i:=by
  rw[List.length_map,List.length_take,Nat.min_eq_left (Nat.le_of_lt h)]
 unfold cG
 rw[List.set_append_right _ _ (by omega),e,Nat.sub_self,List.drop_eq_getElem_cons h,List.set_cons_zero,List.take_add_one,List.getElem?_eq_getElem h,List.map_append,List.append_assoc]
 rfl
theorem pw{c:List Nat}{f t i:Nat}(h:i<c.length)(hne:c[i]≠f):cG c f t (i+1)=cG c f t i:=by
 rw[lA h,if_neg hne]
 conv=>rhs;rw[←List.set_getElem_self (as:=cG c f t i) (i:=i) (h:=by rw[n5];exact h)]
 rw[od h]
theorem HD{c:List Nat}{a b i:Nat}(h:c.length≤i):cG c (max (cl c a) (cl c b)) (min (cl c a) (cl c b)) i=dG c a b:=by
 unfold cG dG
 rw[List.take_of_length_le h,List.drop_of_length_le h,List.append_nil]
theorem qd{l:List Nat}{i n:Nat}(h:i<l.length):(aP l).set i (mg (row (aP l) i) 0 [.val (.int .i64 (n:Int))])=aP (l.set i n):=by
 rw[kn h,←Ki]
 rfl
def ll(e l n:Nat):List (Nat×Nat):=(List.range' e (l-e)).map (fun e=>(e,l))++dK (l+1) n
theorem yg{l n:Nat}(h:l<n):dK l n=ll 0 l n:=zR h
theorem Am{e l n:Nat}(h:e<l):ll e l n=(e,l)::ll (e+1) l n:=by
 unfold ll
 rw[jr h];rfl
theorem CI{e l n:Nat}(h:l≤e):ll e l n=dK (l+1) n:=by
 unfold ll
 rw[kz h];rfl
end Go.Mod
namespace Go.Mod
open Go.Eng
set_option maxRecDepth 100000
def xL(parts:List Term)(steps:List Step)(qR:Nat→Nat→Nat→ja)(i:Nat):ja:=
 if(fS steps i).given<0 then .mk 5 0 (.mk (parts.getD (vA steps i) ao).name []) (((parts.getD (vA steps i) ao).kids.zip (parts.getD (vB steps i) ao).kids).map fun p=>qR i (al parts p.1) (al parts p.2)) else .mk 2 (fS steps i).given ao []
theorem Gx(parts:List Term)(steps:List Step)(qR:Nat→Nat→Nat→ja)(e:Edge):lH parts steps qR e=if e.back then .mk 3 0 ao [xL parts steps qR e.step] else xL parts steps qR e.step:=rfl
theorem y9{steps:List Step}{i:Nat}(h:i<steps.length):fS steps i=steps[i]:=by
 rw[fS,List.getD_eq_getElem?_getD,List.getElem?_eq_getElem h];rfl
theorem EO{c:List Nat}{a b m:Nat}(h:∀x∈c,x≤m):∀x∈dG c a b,x≤m:=by
 intro x hx
 simp only[dG,List.mem_map] at hx
 obtain⟨y,hy,rfl⟩:=hx
 have hle:∀i,cl c i≤m:=fun i=>by
  rcases Nat.lt_or_ge i c.length with h1|h1
  ·exact h _ (xW h1)
  ·rw[PK h1];exact Nat.zero_le _
 have:=hle a
 have:=hle b
 have:=h y hy
 split<;>omega
theorem mP{m:Nat}:∀{c:List Nat},(∀x∈c,x≤m)→c.sum≤c.length*m
 | [],_=>by simp
 | x::c,h=>by
   have h1:=h x (by simp)
   have h2:=mP (c:=c) fun y hy=>h y (List.mem_cons_of_mem _ hy)
   simp only[List.sum_cons,List.length_cons,Nat.add_mul]
   omega
theorem BE{parts:List Term}{c:List Nat}:∀{xs ys:List Term},gm parts c xs ys=true→xs.length=ys.length∧∀(i:Nat)(h:i<xs.length)(h':i<ys.length),cl c (al parts xs[i])=cl c (al parts ys[i])
 | [],[],_=>⟨rfl,fun i h=>by simp at h⟩
 | [],_::_,h=>by cases h
 | _::_,[],h=>by cases h
 | x::xs,y::ys,h=>by
   simp only[gm,Bool.and_eq_true] at h
   obtain⟨i1,i2⟩:=BE h.2
   refine⟨by simp[i1],fun i h1 h2=>?_⟩
   cases i with
   | zero=>simpa[DN] using h.1
   | succ i=>exact i2 i (by simpa using h1) (by simpa using h2)
theorem MW{parts:List Term}{c:List Nat}{a b:Nat}(h:alike parts c a b=true):0<(parts.getD a ao).kids.length∧(parts.getD a ao).name=(parts.getD b ao).name∧(parts.getD a ao).kids.length=(parts.getD b ao).kids.length ∧
 ∀(i:Nat)(h:i<(parts.getD a ao).kids.length)(h':i<(parts.getD b ao).kids.length),cl c (al parts (parts.getD a ao).kids[i])=cl c (al parts (parts.getD b ao).kids[i]):=by
 simp only[alike,Bool.and_eq_true,decide_eq_true_eq] at h
 obtain⟨i1,i2⟩:=BE h.2.2
 exact⟨h.1,h.2.1,i1,i2⟩
theorem La{α β γ:Type}{f:α×β→γ}{xs:List α}{ys:List β}{i:Nat}(h:i<xs.length)(h':i<ys.length):((xs.zip ys).take (i+1)).map f=((xs.zip ys).take i).map f++[f (xs[i],ys[i])]:=by
 rw[List.take_add_one,List.getElem?_eq_getElem (by simp;omega),List.map_append]
 simp
def Mu(one:Edge→ja)(t:Term):List Edge→ja
 | []=>.mk 1 0 t []
 | e::es=>rI one (one e) es
theorem Pu(parts:List Term)(steps:List Step)(f n a b:Nat):nh parts steps (f+1) n a b=Mu (lH parts steps (nh parts steps f)) (parts.getD a ao) (iL parts.length steps n a b):=by
 rw[nh]
 cases iL parts.length steps n a b<;>rfl
theorem Eg{one:Edge→ja}{t:Term}{way:List Edge}(h:0<way.length):Mu one t way=rI one (one way[0]) (way.drop 1):=by
 cases way with
 | nil=>simp at h
 | cons e es=>rfl
end Go.Mod
