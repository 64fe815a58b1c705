/-
  What the deciding functions of chapters 3, 5 and 8 compute, in plain Lean: elimination, closures, explanations, decisions. No program is walked here.
-/
import Derived.Test.YtabembjmeobhoaaGreatKAE
set_option linter.unusedVariables false
set_option linter.unusedSimpArgs false
open Bool renaming and_eq_true→ai,false_eq_true→ax,eq_false_or_eq_true→kE
open Classical renaming em→aa
open Int renaming toNat_natCast→bo,gcd→bK,natCast_nonneg→iq,tdiv_eq_ediv_of_nonneg→jM
open List renaming getElem?_eq_getElem→ah,drop_eq_getElem_cons→aj,getElem_mem→ak,mem_cons→ay,getD_eq_getElem?_getD→az,map_cons→aQ,mem_append→aR,length_cons→a8,getElem?_append_left→bj,mem_cons_of_mem→bl,append_assoc→bm,not_mem_nil→bn,getElem?_eq_none→bq,range→bt,getElem?_append_right→bu,cons_append→bz,getElem?_eq_some_iff→bA,nil_append→bB,take_add_one→bC,mem_map→bD,append_nil→bF,length_take→bI,all_eq_true→cd,getD→cC,nodup_cons→cE,map_append→cW,nodup_append→db,map_nil→di,mem_append_left→dp,length_map→dw,range'→dF,mem_of_find?_eq_some→eX,mem_range→fb,mem_flatMap→fF,length_range→fO,foldl_cons→gl,getElem?_cons_zero→gw,map_set→ko,foldl_append→mo,reverse_append→nd,reverse_cons→oS
open Nat renaming le_refl→aI,zero_le→bh,lt_or_ge→bU,lt_trichotomy→eM,sub_self→kj,min_eq_left→nG
open Option renaming isSome_iff_exists→cH
namespace Go.Mod
open Go.Eng
set_option maxRecDepth 100000
def bO(l:List Nat):List (List D):=l.map fun n:Nat=>[.val (.int .i64 (n:Int))]
theorem Sw(l:List Nat):(bO l).length=l.length:=by simp[bO]
theorem o7{l:List Nat}{i:Nat}(h:i<l.length):row (bO l) i=[.val (.int .i64 (l[i]:Int))]:=by simp[bO,row,cC,ah h]
theorem Cm(l:List Nat):∀y∈bO l,y.length=1:=by
 intro y hy
 obtain⟨t,_,rfl⟩:=bD.1 hy
 rfl
theorem lY(a b:List Nat):bO a++bO b=bO (a++b):=by simp[bO]
theorem RT{l:List Nat}{i n:Nat}:(bO l).set i [.val (.int .i64 (n:Int))]=bO (l.set i n):=by simp[bO,ko]
attribute [go_sem] Sw o7
theorem nY{i n:Nat}(h:i<n):dF i (n-i)=i::dF (i+1) (n-(i+1)):=by
 obtain⟨k,rfl⟩:∃k,n=i+1+k:=⟨n-(i+1),by omega⟩
 have e1:i+1+k-i=k+1:=by omega
 have e2:i+1+k-(i+1)=k:=by omega
 rw[e1,e2,List.range'_succ]
theorem pE{i n:Nat}(h:n≤i):dF i (n-i)=[]:=by
 have e1:n-i=0:=by omega
 rw[e1];rfl
theorem Rr(n:Int):(whole n).N=n:=rfl
theorem XI(n:Int):(whole n).D=1:=rfl
attribute [go_sem] Rr XI
structure cz where
 jA:ia
 fK:List Int
 deriving DecidableEq
def cU(r:cz):List D:=[.dP (bG r.jA.aG),.val (.int .i64 r.jA.bound),.val (.bool r.jA.strict),.dP (bG r.fK)]
def dQ(l:List cz):List (List D):=l.map cU
theorem SN(l:List cz):(dQ l).length=l.length:=by simp[dQ]
theorem Sp{l:List cz}{i:Nat}(h:i<l.length):row (dQ l) i=cU l[i]:=by simp[dQ,row,cC,ah h]
theorem xZ(a b:List cz):dQ a++dQ b=dQ (a++b):=by simp[dQ]
theorem ui:dQ []=[]:=rfl
theorem ve(n:cz)(l:List cz):dQ (n::l)=cU n::dQ l:=rfl
attribute [go_sem] SN Sp ui cU
def bS(r:cz)(v:Nat):Int:=r.jA.aG.getD v 0
def sH(n i:Nat):List Int:=(List.replicate n 0).set i 1
def bH(ls:List ia):List cz:=(bt ls.length).map fun i=>⟨ls.getD i mC,sH ls.length i⟩
def ug(a b:cz)(v:Nat):Int:=(bK (bS a v) (-(bS b v)):Int)
def o0(a b:cz)(v:Nat):Int:=(bS a v).tdiv (ug a b v)
def oZ(a b:cz)(v:Nat):Int:=(-(bS b v)).tdiv (ug a b v)
def qf(a b:cz)(v:Nat):List Int:=comb (oZ a b v) (o0 a b v) a.fK b.fK
def Ap(a b:cz)(v:Nat):cz:=⟨(dN a.jA (oZ a b v) b.jA (o0 a b v)).1,qf a b v⟩
def tx(a b:cz)(v:Nat):Bool:=(dN a.jA (oZ a b v) b.jA (o0 a b v)).2&&(qf a b v).all fun n=>decide (n≤1000000)
def pC(a:cz)(v:Nat)(rows:List cz):List (cz×cz):=rows.filterMap fun b=>if 0<bS a v∧bS b v<0 then some (a,b) else none
def o5(all rows:List cz)(v:Nat):List (cz×cz):=rows.flatMap fun a=>pC a v all
def mF(v:Nat):List (cz×cz)→List cz→Option (List cz)
 | [],out=>some out
 | (a,b)::ps,out=>if tx a b v=true∧out.length<200 then mF v ps (out++[Ap a b v]) else none
def gU(rows:List cz)(v:Nat):Option (List cz):=mF v (o5 rows rows v) (rows.filter fun r=>decide (bS r v=0))
def qK(v:Nat):Nat→List Int→List Rat→Rat→Option Rat
 | i,c::cs,x::xs,sum=>if i=v then qK v (i+1) cs xs sum else if(plus sum (-c) x).2 then qK v (i+1) cs xs (plus sum (-c) x).1 else none
 | _,_,_,sum=>some sum
def zz(x:Rat×Bool):Option Rat:=if x.2 then some x.1 else none
def mU(l:ia)(v:Nat)(aB:List Rat):Option Rat:=
 match qK v 0 l.aG aB (whole l.bound) with
 | none=>none
 | some sum=>if(lj 1 (l.aG.getD v 0)).2 then zz (cq sum (lj 1 (l.aG.getD v 0)).1) else none
def lower(x:Rat):Option Rat→Bool
 | none=>true
 | some h=>cQ x h
def upper(x:Rat):Option Rat→Bool
 | none=>true
 | some l=>cQ l x
def oG(v:Nat)(aB:List Rat):List cz→Option Rat→Option Rat→Option (Option Rat×Option Rat)
 | [],lo,hi=>some (lo,hi)
 | r::rs,lo,hi=>if bS r v=0 then oG v aB rs lo hi else match mU r.jA v aB with
   | none=>none
   | some b=>if 0<bS r v then oG v aB rs lo (if lower b hi then some b else hi) else oG v aB rs (if upper b lo then some b else lo) hi
def kH:Option Rat→Option Rat→Rat×Bool
 | some l,some h=>qE l h
 | none,some h=>cY h (whole (-1))
 | some l,none=>cY l (whole 1)
 | none,none=>(whole 0,true)
def valueOf(rows:List cz)(v:Nat)(aB:List Rat):Option Rat:=
 match oG v aB rows none none with
 | none=>none
 | some e=>zz (kH e.1 e.2)
def me:List (List cz)→Nat→List Rat→Option (List Rat)
 | [],_,aB=>some aB
 | rows::st,v,aB=>match valueOf rows v aB with
   | none=>none
   | some x=>me st (v+1) (aB.set v x)
def k8:List Int→List Rat→Rat→Option Rat
 | c::cs,x::xs,sum=>if(plus sum c x).2 then k8 cs xs (plus sum c x).1 else none
 | _,_,sum=>some sum
def qt(aB:List Rat):Bool:=decide (aB.length=4)&&aB.all bV
def mh(l:ia)(aB:List Rat):Option Bool:=if dE l&&qt aB then(k8 l.aG aB (whole 0)).map fun x=>below x l.bound l.strict else none
def kQ(list:List ia)(aB:List Rat):Bool:=fH list&&(qt aB&&list.all fun l=>decide (mh l aB=some true))
def nL:List Rat:=[whole 0,whole 0,whole 0,whole 0]
structure Far where
 aB:List Rat
 times:List Int
 code:Int
def ie(list:List ia)(s0 s1 s2 s3 rows:List cz):Far:=
 match rows.find? fun r=>jG r.jA with
 | some r=>if qS list r.fK then⟨[],r.fK,1⟩ else⟨[],[],2⟩
 | none=>match me [s0,s1,s2,s3] 0 nL with
   | none=>⟨[],[],2⟩
   | some aB=>if kQ list aB then⟨aB,[],0⟩ else⟨[],[],2⟩
def bR(list:List ia):Far:=
 if fH list then match gU (bH list) 3 with
  | none=>⟨[],[],2⟩
  | some r2=>match gU r2 2 with
    | none=>⟨[],[],2⟩
    | some r1=>match gU r1 1 with
      | none=>⟨[],[],2⟩
      | some r0=>match gU r0 0 with
        | none=>⟨[],[],2⟩
        | some rows=>ie list r0 r1 r2 (bH list) rows
 else⟨[],[],3⟩
def aH(ae:List Term)(t:Term):Nat:=(bM ae t).toNat
def cl(class_:List Nat)(i:Nat):Nat:=class_.getD i 0
def fU(class_:List Nat)(a b:Nat):List Nat:=class_.map fun k=>if k=max (cl class_ a) (cl class_ b) then min (cl class_ a) (cl class_ b) else k
def I8(ae:List Term)(class_:List Nat)(x y:Term):Bool:=decide (cl class_ (aH ae x)=cl class_ (aH ae y))
def lA(ae:List Term)(class_:List Nat):List Term→List Term→Bool
 | [],[]=>true
 | x::xs,y::ys=>I8 ae class_ x y&&lA ae class_ xs ys
 | _,_=>false
def alike(ae:List Term)(class_:List Nat)(a b:Nat):Bool:=
 decide (0<(ae.getD a aL).kids.length)&&(decide ((ae.getD a aL).name=(ae.getD b aL).name)&&lA ae class_ (ae.getD a aL).kids (ae.getD b aL).kids)
def mR(ae:List Term)(class_:List Nat)(early late:Nat):Bool:=decide (cl class_ early≠cl class_ late)&&alike ae class_ early late
def jy(from_ n:Nat):List (Nat×Nat):=(dF from_ (n-from_)).flatMap fun l=>(dF 0 l).map fun e=>(e,l)
def fw(ae:List Term)(class_:List Nat):Option (Nat×Nat):=(jy 0 ae.length).find? fun p=>mR ae class_ p.1 p.2
def iX(ae:List Term):Nat→List iA→List Nat→List Step→List Nat×List Step
 | _,[],class_,af=>(class_,af)
 | n,e::es,class_,af=>
   if cl class_ (aH ae e.A)=cl class_ (aH ae e.B) then iX ae (n+1) es class_ af
   else iX ae (n+1) es (fU class_ (aH ae e.A) (aH ae e.B)) (af++[⟨aH ae e.A,aH ae e.B,n⟩])
def j9(ae:List Term):Nat→List Nat→List Step→List Nat×List Step
 | 0,class_,af=>(class_,af)
 | f+1,class_,af=>match fw ae class_ with
   | none=>(class_,af)
   | some p=>j9 ae f (fU class_ p.1 p.2) (af++[⟨p.1,p.2,-1⟩])
def given(ae:List Term)(eqs:List iA):List Nat×List Step:=iX ae 0 eqs (bt ae.length) []
def closed(ae:List Term)(eqs:List iA):List Nat×List Step:=j9 ae (given ae eqs).1.sum (given ae eqs).1 (given ae eqs).2
def aV(n:Nat)(af:List Step)(k:Nat):List Nat:=(af.take k).foldl (fun c s=>fU c s.A.toNat s.B.toNat) (bt n)
structure Edge where
 step:Nat
 back:Bool
 deriving DecidableEq
def hJ(af:List Step)(k:Nat):Step:=af.getD k ⟨0,0,0⟩
def lF(n:Nat)(af:List Step):Nat→Nat→Nat→List Edge
 | 0,_,_=>[]
 | k+1,a,b=>
   let c:=aV n af k
   if cl c a=cl c b then lF n af k a b
   else if cl c a=cl c (hJ af k).A.toNat then lF n af k a (hJ af k).A.toNat++⟨k,false⟩::lF n af k (hJ af k).B.toNat b
   else lF n af k a (hJ af k).B.toNat++⟨k,true⟩::lF n af k (hJ af k).A.toNat b
def kJ(ae:List Term)(af:List Step)(vN:Nat→Nat→Nat→mc)(e:Edge):mc:=
 let s:=hJ af e.step
 let w:mc:=if s.given<0 then .mk 5 0 (.mk (ae.getD s.A.toNat aL).name []) (((ae.getD s.A.toNat aL).kids.zip (ae.getD s.B.toNat aL).kids).map fun p=>vN e.step (aH ae p.1) (aH ae p.2)) else .mk 2 s.given aL []
 if e.back then .mk 3 0 aL [w] else w
def ot(one:Edge→mc):mc→List Edge→mc
 | w,[]=>w
 | w,e::es=>ot one (.mk 4 0 aL [w,one e]) es
def lf(ae:List Term)(af:List Step):Nat→Nat→Nat→Nat→mc
 | 0,_,_,_=>vM
 | f+1,n,a,b=>match lF ae.length af n a b with
   | []=>.mk 1 0 (ae.getD a aL) []
   | e::es=>ot (kJ ae af (lf ae af f)) (kJ ae af (lf ae af f) e) es
def lX(ae:List Term)(af:List Step)(a b:Term):mc:=lf ae af (af.length+1) af.length (aH ae a) (aH ae b)
def eU(nums:List Term)(out:List Nat)(e:iA):List Nat:=
 if bM nums e.A<0∨bM nums e.B<0 then out else out.map fun k=>if k=cl out (aH nums e.A) then cl out (aH nums e.B) else k
def ke(nums:List Term)(eqs:List iA):List Nat:=eqs.foldl (eU nums) (bt nums.length)
def linked(nums:List Term)(ab:List bp)(i k:Nat):Bool:=decide (cl (ke nums (bc ab)) i=cl (ke nums (bc ab)) k)
def eQ(nums:List Term)(ab:List bp)(i k:Nat):Bool:=ab.any fun l=>!l.no&&decide (l.atom=(dz (nums.getD i aL) (nums.getD k aL)).atom)
def dC(from_ n:Nat):List (Nat×Nat):=(dF from_ (n-from_)).flatMap fun i=>(dF (i+1) (n-(i+1))).map fun k=>(i,k)
def b9(n:Nat)(p:Nat→Nat→Bool):Option (Nat×Nat):=(dC 0 n).find? fun q=>p q.1 q.2
def fY(au:List Term)(class_:List Nat)(a b:Term):Bool:=decide (cl class_ (aH au a)=cl class_ (aH au b))
def jm(au:List Term)(class_:List Nat)(l:bp):Bool:=l.no&&(decide (l.atom.kind=1)&&fY au class_ l.atom.A l.atom.B)
def kI{α:Type}(p:α→Bool)(l:List α):Option Nat:=(bt l.length).find? fun i=>match l[i]? with|none=>false|some x=>p x
def iM(au nums:List Term)(class_:List Nat)(aB:List Rat)(t:Term):Rat:=if bM nums t<0 then whole (cl class_ (aH au t)) else aB.getD (aH nums t) (whole 0)
def iB(au nums:List Term)(class_:List Nat)(aB:List Rat)(t:Term):Row:=⟨t.name,t.kids.map (iM au nums class_ aB),iM au nums class_ aB t⟩
def putRow(rows:List Row)(r:Row):List Row:=
 let lo:=rows.takeWhile fun x=>decide (e9 x r<0)
 let hi:=rows.dropWhile fun x=>decide (e9 x r<0)
 match hi with
 | []=>lo++[r]
 | x::xs=>if e9 x r=0 then rows else lo++r::x::xs
def gY(au nums:List Term)(class_:List Nat)(aB:List Rat):List Row:=au.foldl (fun rows t=>putRow rows (iB au nums class_ aB t)) []
def eE(s:dG)(m:Model)(ab:List bp):Bool:=e7 s m&&ab.all fun l=>decide (fT s m l=some true)
structure zt where
 model:Model
 case:Case
 code:Int
def sF:Case:=.mk 0 0 vM [] aL aL []
def l7:Model:=⟨[]⟩
def uz:zt:=⟨l7,sF,2⟩
def AM(w:mc)(r:zt):zt:=if r.code=1 then⟨l7,.mk 3 0 w [] aL aL [r.case],1⟩ else⟨r.model,sF,r.code⟩
def qi(run:List bp→zt)(a b:Term):List (List bp)→List Case→zt
 | [],out=>⟨l7,.mk 4 0 vM [] a b out,1⟩
 | l::ls,out=>if(run l).code=1 then qi run a b ls (out++[(run l).case]) else⟨(run l).model,sF,(run l).code⟩
def jw(s:dG)(au nums:List Term):Nat→List bp→zt
 | 0,_=>uz
 | f+1,ab=>
   let eqs:=bc ab
   let c:=closed au eqs
   let IU:=bR (dY nums ab)
   if 12<eqs.length then uz else
   match kI (jm au c.1) ab with
   | some n=>⟨l7,.mk 1 n (lX au c.2 (ab.getD n DN).atom.A (ab.getD n DN).atom.B) [] aL aL [],1⟩
   | none=>
     if IU.code=1 then⟨l7,.mk 2 0 vM IU.times aL aL [],1⟩ else
     if IU.code≠0 then uz else
     match b9 nums.length (fun i k=>!linked nums ab i k&&fY au c.1 (nums.getD i aL) (nums.getD k aL)) with
     | some (i,k)=>AM (lX au c.2 (nums.getD i aL) (nums.getD k aL)) (jw s au nums f (ab++[gP (nums.getD i aL) (nums.getD k aL)]))
     | none=>match b9 nums.length (fun i k=>!linked nums ab i k&&(!eQ nums ab i k&& !eQ nums ab k i)) with
       | some (i,k)=>qi (jw s au nums f) (nums.getD i aL) (nums.getD k aL) ((fJ (nums.getD i aL) (nums.getD k aL)).map fun l=>ab++[l]) []
       | none=>if eE s ⟨gY au nums c.1 IU.aB⟩ ab then⟨⟨gY au nums c.1 IU.aB⟩,sF,0⟩ else uz
def fk(s:dG)(ab:List bp):zt:=if fa s ab then jw s (aE ab) (numsOf s ab) 13 ab else⟨l7,sF,3⟩
theorem gR{c:List Nat}{i:Nat}(h:i<c.length):cl c i=c[i]:=by rw[cl,az,ah h];rfl
theorem y0{c:List Nat}{i:Nat}(h:i<c.length):cl c i∈c:=by rw[gR h];exact ak h
theorem X6{c:List Nat}{i:Nat}(h:c.length≤i):cl c i=0:=by rw[cl,az,bq h];rfl
theorem fC(c:List Nat)(a b:Nat):(fU c a b).length=c.length:=by simp[fU]
theorem vo{c:List Nat}{f:Nat→Nat}{i:Nat}(h:i<c.length):cl (c.map f) i=f (cl c i):=by
 rw[gR (by simpa using h),gR h,List.getElem_map]
theorem wT{c:List Nat}{a b i:Nat}(h:i<c.length):cl (fU c a b) i=if cl c i=max (cl c a) (cl c b) then min (cl c a) (cl c b) else cl c i:=vo h
theorem BT{c:List Nat}{a b i k:Nat}(hi:i<c.length)(hk:k<c.length):cl (fU c a b) i=cl (fU c a b) k↔(cl c i=cl c k∨(cl c i=cl c a∧cl c k=cl c b)∨(cl c i=cl c b∧cl c k=cl c a)):=by
 rw[wT hi,wT hk]
 split<;>split<;>omega
theorem Ua{f:Nat→Nat}(hf:∀x,f x≤x):∀l:List Nat,(l.map f).sum≤l.sum
 | []=>aI _
 | x::l=>by
   have:=Ua hf l
   have:=hf x
   simp only[aQ,List.sum_cons]
   omega
theorem UI{f:Nat→Nat}(hf:∀x,f x≤x):∀{l:List Nat}{x:Nat},x∈l→f x<x→(l.map f).sum<l.sum
 | y::l,x,hx,h=>by
   simp only[aQ,List.sum_cons]
   have h1:=Ua hf l
   have h2:=hf y
   rcases ay.1 hx with e|e
   ·subst e;omega
   ·have:=UI hf e h
    omega
theorem Jr{c:List Nat}{a b:Nat}(ha:a<c.length)(hb:b<c.length)(h:cl c a≠cl c b):(fU c a b).sum<c.sum:=by
 refine UI (x:=max (cl c a) (cl c b)) (fun x=>?_) ?_ ?_
 ·split<;>omega
 ·rcases Nat.le_total (cl c a) (cl c b) with h1|h1
  ·rw[Nat.max_eq_right h1];exact y0 hb
  ·rw[Nat.max_eq_left h1];exact y0 ha
 ·rw[if_pos rfl];omega
theorem yj{s n:Nat}{p:Nat×Nat}:p∈jy s n↔p.1<p.2∧s≤p.2∧p.2<n:=by
 obtain⟨e,l⟩:=p
 simp only[jy,fF,bD,List.mem_range'_1,Prod.mk.injEq]
 constructor
 ·rintro⟨l',h1,e',h2,rfl,rfl⟩;omega
 ·rintro⟨h1,h2,h3⟩
  exact⟨l,by omega,e,by omega,rfl,rfl⟩
theorem Fp{l n:Nat}(h:l<n):jy l n=(dF 0 (l-0)).map (fun e=>(e,l))++jy (l+1) n:=by
 unfold jy
 rw[nY h]
 rfl
theorem yR{l n:Nat}(h:n≤l):jy l n=[]:=by
 unfold jy
 rw[pE h]
 rfl
theorem pP{ae:List Term}{c:List Nat}{p:Nat×Nat}(h:fw ae c=some p):p.1<p.2∧p.2<ae.length∧cl c p.1≠cl c p.2∧alike ae c p.1 p.2=true:=by
 have h1:=List.find?_some h
 have h2:=yj.1 (eX h)
 simp only[mR,ai,decide_eq_true_eq] at h1
 exact⟨h2.1,h2.2.2,h1.1,h1.2⟩
theorem TA{x:Nat}:∀{l:List Nat},x∈l→x≤l.sum
 | y::l,h=>by
   simp only[List.sum_cons]
   rcases ay.1 h with e|e
   ·omega
   ·have:=TA e;omega
theorem uX{ae:List Term}{f:Nat}{c:List Nat}{af:List Step}(h:fw ae c=none):j9 ae f c af=(c,af):=by
 cases f with
 | zero=>rfl
 | succ f=>simp only[j9,h]
theorem u7{ae:List Term}{f:Nat}{c:List Nat}{af:List Step}{p:Nat×Nat}(hs:c.sum≤f)(hc:c.length=ae.length)(h:fw ae c=some p) :
 ∃f',f=f'+1∧j9 ae f c af=j9 ae f' (fU c p.1 p.2) (af++[⟨p.1,p.2,-1⟩])∧(fU c p.1 p.2).sum≤f':=by
 obtain⟨h1,h2,h3,h4⟩:=pP h
 have hd:=Jr (c:=c) (a:=p.1) (b:=p.2) (by omega) (by omega) h3
 obtain⟨f',rfl⟩:∃f',f=f'+1:=⟨f-1,by omega⟩
 exact⟨f',rfl,by simp only[j9,h],by omega⟩
structure Lm(ae:List Term)(eqs:List iA)(c:List Nat)(s:Step):Prop where
 a0:0≤s.A
 a1:s.A.toNat<ae.length
 b0:0≤s.B
 b1:s.B.toNat<ae.length
 ne:cl c s.A.toNat≠cl c s.B.toNat
 Xv:(s.given = -1∧alike ae c s.A.toNat s.B.toNat=true)∨(∃n:Nat,s.given=n∧∃e,eqs[n]?=some e∧s.A=aH ae e.A∧s.B=aH ae e.B)
def lC(ae:List Term)(eqs:List iA)(af:List Step):Prop:=∀k s,af[k]?=some s→Lm ae eqs (aV ae.length af k) s
theorem tn{n k:Nat}{af more:List Step}(h:k≤af.length):aV n (af++more) k=aV n af k:=by
 rw[aV,aV,List.take_append_of_le_length h]
theorem iz(n:Nat)(af:List Step)(k:Nat):(aV n af k).length=n:=by
 unfold aV
 have:∀(l:List Step)(c:List Nat),(l.foldl (fun c s=>fU c s.A.toNat s.B.toNat) c).length=c.length:=by
  intro l
  induction l with
  | nil=>intro c;rfl
  | cons s l ih=>intro c;rw[gl,ih,fC]
 rw[this,fO]
theorem rQ{n k:Nat}{af:List Step}{s:Step}(h:af[k]?=some s):aV n af (k+1)=fU (aV n af k) s.A.toNat s.B.toNat:=by
 obtain⟨hk,rfl⟩:=bA.1 h
 rw[aV,bC,ah hk,mo]
 rfl
theorem Lb{ae:List Term}{eqs:List iA}{af:List Step}{s:Step}(h:lC ae eqs af)(hs:Lm ae eqs (aV ae.length af af.length) s):lC ae eqs (af++[s]):=by
 intro k t ht
 rcases eM k af.length with h1|h1|h1
 ·rw[bj h1] at ht
  rw[tn (by omega)]
  exact h k t ht
 ·subst h1
  rw[bu (aI _)] at ht
  simp only[kj,gw,Option.some.injEq] at ht
  rw[tn (aI _),←ht]
  exact hs
 ·rw[bq (by simp;omega)] at ht
  cases ht
theorem FK{n:Nat}{af:List Step}{s:Step}:aV n (af++[s]) (af++[s]).length=fU (aV n af af.length) s.A.toNat s.B.toNat:=by
 rw[List.length_append,List.length_singleton,rQ (s:=s) (by simp),tn (aI _)]
def Kept(ae:List Term)(eqs:List iA)(x:List Nat×List Step):Prop:=lC ae eqs x.2∧x.1=aV ae.length x.2 x.2.length
theorem MO{ae:List Term}{eqs:List iA}{x:List Nat×List Step}(h:Kept ae eqs x):x.1.length=ae.length:=by rw[h.2,iz]
theorem Iu{ae:List Term}{eqs:List iA}{x:List Nat×List Step}{s:Step}(h:Kept ae eqs x)(hs:Lm ae eqs x.1 s):Kept ae eqs (fU x.1 s.A.toNat s.B.toNat,x.2++[s]):=
 ⟨Lb h.1 (h.2▸hs),by rw[FK,←h.2]⟩
theorem vh{ae:List Term}{all:List iA}(kC:∀e∈all,e.A∈ae∧e.B∈ae):∀(eqs:List iA)(n:Nat)(c:List Nat)(af:List Step),all.drop n=eqs→Kept ae all (c,af)→Kept ae all (iX ae n eqs c af)
 | [],_,_,_,_,h=>h
 | e::es,n,c,af,hd,h=>by
   have hn:all[n]?=some e:=by
    have:=congrArg (·[0]?) hd
    simpa using this
   have hd2:all.drop (n+1)=es:=by
    have:=congrArg List.tail hd
    simpa[List.tail_drop] using this
   obtain⟨hA,hB⟩:=kC e (List.mem_of_getElem? hn)
   rw[iX]
   split
   ·exact vh kC es (n+1) c af hd2 h
   ·rename_i ju
    exact vh kC es (n+1) _ _ hd2 (Iu (s:=⟨aH ae e.A,aH ae e.B,n⟩) h ⟨iq _,by rw[bo];exact nI hA,iq _,by rw[bo];exact nI hB,by simpa using ju,.inr ⟨n,rfl,e,hn,rfl,rfl⟩⟩)
theorem Ak{ae:List Term}{all:List iA}:∀(f:Nat)(c:List Nat)(af:List Step),Kept ae all (c,af)→Kept ae all (j9 ae f c af)
 | 0,_,_,h=>h
 | f+1,c,af,h=>by
   rw[j9]
   split
   ·exact h
   ·rename_i p hp
    obtain⟨h1,h2,h3,h4⟩:=pP hp
    exact Ak f _ _ (Iu (s:=⟨p.1,p.2,-1⟩) h ⟨iq _,by simp;omega,iq _,by simpa using h2,by simpa using h3,.inl ⟨rfl,by simpa using h4⟩⟩)
theorem Om{ae:List Term}{eqs:List iA}(kC:∀e∈eqs,e.A∈ae∧e.B∈ae):Kept ae eqs (given ae eqs):=
 vh kC eqs 0 _ _ rfl ⟨fun k s h=>by simp at h,rfl⟩
theorem mI{ae:List Term}{eqs:List iA}(kC:∀e∈eqs,e.A∈ae∧e.B∈ae):Kept ae eqs (closed ae eqs):=Ak _ _ _ (Om kC)
theorem uE{ae:List Term}{eqs:List iA}{x:List Nat×List Step}(h:Kept ae eqs x):∀k,k≤x.2.length→(aV ae.length x.2 k).sum+k≤(bt ae.length).sum:=by
 intro k
 induction k with
 | zero=>intro _;exact Nat.le_of_eq (by simp[aV])
 | succ k ih=>
   intro hk
   have hs:x.2[k]?=some x.2[k]:=ah (by omega)
   have h1:=ih (by omega)
   have h2:=h.1 k _ hs
   have h3:=Jr (c:=aV ae.length x.2 k) (by rw[iz];exact h2.a1) (by rw[iz];exact h2.b1) h2.ne
   rw[rQ hs]
   omega
def vA(af:List Step)(k:Nat):Nat:=(hJ af k).A.toNat
def vB(af:List Step)(k:Nat):Nat:=(hJ af k).B.toNat
def gC(af:List Step)(e:Edge):Nat:=if e.back then vB af e.step else vA af e.step
def ig(af:List Step)(e:Edge):Nat:=if e.back then vA af e.step else vB af e.step
def pG(af:List Step):Nat→List Edge→Nat→Prop
 | a,[],b=>a=b
 | a,e::es,b=>gC af e=a∧pG af (ig af e) es b
def oA(k:Nat)(es:List Edge):Prop:=∀e∈es,e.step<k
def gJ(af:List Step)(a:Nat)(es:List Edge):List Nat:=a::es.map (ig af)
theorem vR{af:List Step}:∀{p q:List Edge}{a b:Nat},pG af a (p++q) b↔∃m,pG af a p m∧pG af m q b
 | [],q,a,b=>by simp[pG]
 | e::p,q,a,b=>by
   simp only[bz,pG,vR (p:=p)]
   constructor
   ·rintro⟨h1,m,h2,h3⟩;exact⟨m,⟨h1,h2⟩,h3⟩
   ·rintro⟨m,⟨h1,h2⟩,h3⟩;exact⟨h1,m,h2,h3⟩
theorem Fu{af:List Step}:∀{p:List Edge}{a b:Nat},pG af a p b→b∈gJ af a p
 | [],a,b,h=>by simp[pG] at h;simp[gJ,h]
 | e::p,a,b,h=>by
   have:=Fu h.2
   simp only[gJ,aQ,ay] at this⊢
   exact .inr this
section
variable{ae:List Term}{eqs:List iA}{af:List Step}(eK:lC ae eqs af)
include eK
theorem og{k:Nat}(h:k<af.length):Lm ae eqs (aV ae.length af k) (hJ af k):=by
 have e:=ah h
 have:=eK k _ e
 rw[hJ,az,e]
 exact this
theorem Gd{k:Nat}(h:k<af.length):vA af k<ae.length:=(og eK h).a1
theorem Fs{k:Nat}(h:k<af.length):vB af k<ae.length:=(og eK h).b1
omit eK in
theorem Rb{k:Nat}(h:k<af.length):aV ae.length af (k+1)=fU (aV ae.length af k) (vA af k) (vB af k):=by
 rw[rQ (ah h),vA,vB,hJ,az,ah h]
 rfl
omit eK in
theorem OQ{k i j:Nat}(h:k<af.length)(hi:i<ae.length)(hj:j<ae.length):cl (aV ae.length af (k+1)) i=cl (aV ae.length af (k+1)) j ↔
 (cl (aV ae.length af k) i=cl (aV ae.length af k) j∨(cl (aV ae.length af k) i=cl (aV ae.length af k) (vA af k)∧cl (aV ae.length af k) j=cl (aV ae.length af k) (vB af k))∨(cl (aV ae.length af k) i=cl (aV ae.length af k) (vB af k)∧cl (aV ae.length af k) j=cl (aV ae.length af k) (vA af k))):=by
 rw[Rb h]
 exact BT (by rw[iz];exact hi) (by rw[iz];exact hj)
theorem IX:∀{k:Nat},k≤af.length→∀{j:Nat},j<k→cl (aV ae.length af k) (vA af j)=cl (aV ae.length af k) (vB af j)
 | 0,_,j,h=>by omega
 | k+1,hk,j,h=>by
   rw[OQ (by omega) (Gd eK (by omega)) (Fs eK (by omega))]
   rcases bU j k with h1|h1
   ·exact .inl (IX (by omega) h1)
   ·obtain rfl:j=k:=by omega
    exact .inr (.inl ⟨rfl,rfl⟩)
theorem xN{e:Edge}(h:e.step<af.length):ig af e<ae.length:=by
 unfold ig
 split
 ·exact Gd eK h
 ·exact Fs eK h
theorem Cp{k:Nat}(hk:k≤af.length){e:Edge}(h:e.step<k):cl (aV ae.length af k) (gC af e)=cl (aV ae.length af k) (ig af e):=by
 have:=IX eK hk h
 unfold gC ig
 cases e.back
 ·simpa using this
 ·simpa using this.symm
theorem xY{k:Nat}(hk:k≤af.length):∀{es:List Edge}{a b:Nat},oA k es→pG af a es b→cl (aV ae.length af k) a=cl (aV ae.length af k) b
 | [],a,b,_,h=>by simp only[pG] at h;rw[h]
 | e::es,a,b,hw,h=>by
   rw[←h.1,Cp eK hk (hw e (by simp))]
   exact xY hk (fun x hx=>hw x (bl _ hx)) h.2
theorem Lh{k:Nat}(hk:k≤af.length):∀{es:List Edge}{a b:Nat},oA k es→pG af a es b→a<ae.length→b<ae.length
 | [],a,b,_,h,ha=>by simp only[pG] at h;omega
 | e::es,a,b,hw,h,ha=>Lh hk (fun x hx=>hw x (bl _ hx)) h.2 (xN eK (by have:=hw e (by simp);omega))
theorem pq{k:Nat}(hk:k≤af.length):∀{es:List Edge}{a b:Nat},oA k es→pG af a es b→∀v∈gJ af a es,cl (aV ae.length af k) v=cl (aV ae.length af k) a
 | [],a,b,_,h,v,hv=>by simp[gJ] at hv;rw[hv]
 | e::es,a,b,hw,h,v,hv=>by
   simp only[gJ,aQ,ay] at hv
   rcases hv with e1|hv
   ·rw[e1]
   ·rw[pq hk (fun x hx=>hw x (bl _ hx)) h.2 v (by simpa[gJ] using hv),←h.1]
    exact(Cp eK hk (hw e (by simp))).symm
theorem r4:∀{k:Nat},k≤af.length→∀{es:List Edge}{a b:Nat},a<ae.length→oA k es→pG af a es b→(gJ af a es).Nodup→es=lF ae.length af k a b
 | 0,_,es,a,b,_,hw,h,_=>by
   cases es with
   | nil=>rfl
   | cons e es=>exact absurd (hw e (by simp)) (by omega)
 | k+1,hk,es,a,b,ha,hw,h,hn=>by
   have hk':k≤af.length:=by omega
   have hb:=Lh eK hk hw h ha
   rcases aa (oA k es) with kC|kC
   ·have hs:=xY eK hk' kC h
    rw[lF,if_pos hs]
    exact r4 hk' ha kC h hn
   ·-- the first edge of the last step
    have hsplit:∃p e q,es=p++e::q∧oA k p∧e.step=k:=by
     clear h hn hb
     induction es with
     | nil=>exact absurd (fun e he=>by simp at he) kC
     | cons e es ih=>
       have he:=hw e (by simp)
       rcases bU e.step k with h1|h1
       ·obtain⟨p,x,q,e1,e2,e3⟩:=ih (fun x hx=>hw x (bl _ hx)) (fun hin2=>kC fun x hx=>by
         rcases ay.1 hx with e4|e4
         ·rw[e4];exact h1
         ·exact hin2 x e4)
        refine⟨e::p,x,q,by rw[e1];rfl,fun y hy=>?_,e3⟩
        rcases ay.1 hy with e4|e4
        ·rw[e4];exact h1
        ·exact e2 y e4
       ·exact⟨[],e,es,rfl,fun x hx=>by simp at hx,by omega⟩
    obtain⟨p,e,q,rfl,hp,hek⟩:=hsplit
    obtain⟨m,w1,w2⟩:=vR.1 h
    obtain⟨w3,w4⟩:=w2
    subst w3
    have hve:gJ af a (p++e::q)=gJ af a p++gJ af (ig af e) q:=by simp[gJ]
    rw[hve] at hn
    obtain⟨n1,n2,n3⟩:=db.1 hn
    have hq:oA k q:=by
     intro x hx
     have hx1:=hw x (by simp[hx])
     rcases bU x.step k with h1|h1
     ·exact h1
     ·exfalso
      have hxk:x.step=k:=by omega
      obtain⟨q1,q2,rfl⟩:=List.append_of_mem hx
      obtain⟨m2,u1,u2⟩:=vR.1 w4
      obtain⟨u3,u4⟩:=u2
      have hs1:gC af e∈gJ af a p:=Fu w1
      have ju:ig af x≠ig af e:=by
       intro he
       have:(ig af e::(q1.map (ig af)++ig af x::q2.map (ig af))).Nodup:=by simpa[gJ] using n2
       have:=(cE.1 this).1
       exact this (by simp[he])
      have hne2:ig af x≠gC af e:=by
       intro he
       exact n3 _ hs1 _ (by simp[gJ]:ig af x∈gJ af (ig af e) (q1++x::q2)) he.symm
      unfold ig at ju hne2
      unfold gC at hne2
      rw[hxk,hek] at ju hne2
      cases h5:x.back<;>cases h6:e.back<;>simp[h5,h6] at ju hne2
    have mr:gC af e<ae.length:=Lh eK hk' hp w1 ha
    have hlt2:ig af e<ae.length:=xN eK (by omega)
    have hok2:=(og eK (k:=k) (by omega)).ne
    have i1:=r4 hk' ha hp w1 n1
    have i2:=r4 hk' hlt2 hq w4 n2
    have s1:=xY eK hk' hp w1
    have s2:=xY eK hk' hq w4
    rw[lF]
    unfold gC at i1 s1
    unfold ig at i2 s2
    rw[hek] at i1 i2 s1 s2
    obtain⟨st,bk⟩:=e
    simp only at hek
    subst hek
    cases bk
    ·simp only[ax,if_false,vA,vB] at i1 i2 s1 s2
     rw[if_neg (by rw[s1,←s2];exact hok2),if_pos s1,←i1,←i2]
    ·simp only[if_true,vA,vB] at i1 i2 s1 s2
     rw[if_neg (by rw[s1,←s2];exact fun h=>hok2 h.symm),if_neg (by rw[s1];exact fun h=>hok2 h.symm),←i1,←i2]
theorem rr:∀{k:Nat},k≤af.length→∀{a b:Nat},a<ae.length→b<ae.length→cl (aV ae.length af k) a=cl (aV ae.length af k) b →
 oA k (lF ae.length af k a b)∧pG af a (lF ae.length af k a b) b∧(gJ af a (lF ae.length af k a b)).Nodup
 | 0,_,a,b,ha,hb,h=>by
   have e:∀i,i<ae.length→cl (aV ae.length af 0) i=i:=fun i hi=>by
    rw[gR (by rw[iz];exact hi)]
    simp[aV]
   rw[e a ha,e b hb] at h
   subst h
   exact⟨fun x hx=>by simp[lF] at hx,rfl,by simp[lF,gJ]⟩
 | k+1,hk,a,b,ha,hb,h=>by
   have hk':k≤af.length:=by omega
   have up:∀{es:List Edge},oA k es→oA (k+1) es:=fun hw e he=>Nat.lt_succ_of_lt (hw e he)
   rw[OQ (by omega) ha hb] at h
   have hA:=Gd eK (k:=k) (by omega)
   have hB:=Fs eK (k:=k) (by omega)
   have ju:=(og eK (k:=k) (by omega)).ne
   rw[lF]
   rcases aa (cl (aV ae.length af k) a=cl (aV ae.length af k) b) with h1|h1
   ·rw[if_pos h1]
    obtain⟨i1,i2,i3⟩:=rr hk' ha hb h1
    exact⟨up i1,i2,i3⟩
   ·rw[if_neg h1]
    rcases h with h|⟨h,h'⟩|⟨h,h'⟩
    ·exact(h1 h).elim
    ·rw[if_pos (show _=cl _ (hJ af k).A.toNat from h)]
     obtain⟨i1,i2,i3⟩:=rr hk' ha hA h
     obtain⟨j1,j2,j3⟩:=rr hk' hB hb h'.symm
     refine⟨?_,vR.2 ⟨_,i2,rfl,j2⟩,?_⟩
     ·intro x hx
      rcases aR.1 hx with e|e
      ·exact up i1 x e
      ·rcases ay.1 e with e|e
       ·rw[e];exact Nat.lt_succ_self k
       ·exact up j1 x e
     ·have hve:gJ af a (lF ae.length af k a (vA af k)++⟨k,false⟩::lF ae.length af k (vB af k) b)=gJ af a (lF ae.length af k a (vA af k))++gJ af (vB af k) (lF ae.length af k (vB af k) b):=by simp[gJ,ig]
      refine hve▸db.2 ⟨i3,j3,fun x hx y hy e=>?_⟩
      have s1:=pq eK hk' i1 i2 x hx
      have s2:=pq eK hk' j1 j2 y hy
      rw[←e,s1] at s2
      exact ju (h.symm.trans s2)
    ·have h2:¬cl (aV ae.length af k) a=cl (aV ae.length af k) (hJ af k).A.toNat:=fun h3=>ju (h3.symm.trans h)
     rw[if_neg h2]
     obtain⟨i1,i2,i3⟩:=rr hk' ha hB h
     obtain⟨j1,j2,j3⟩:=rr hk' hA hb h'.symm
     refine⟨?_,vR.2 ⟨_,i2,rfl,j2⟩,?_⟩
     ·intro x hx
      rcases aR.1 hx with e|e
      ·exact up i1 x e
      ·rcases ay.1 e with e|e
       ·rw[e];exact Nat.lt_succ_self k
       ·exact up j1 x e
     ·have hve:gJ af a (lF ae.length af k a (vB af k)++⟨k,true⟩::lF ae.length af k (vA af k) b)=gJ af a (lF ae.length af k a (vB af k))++gJ af (vA af k) (lF ae.length af k (vA af k) b):=by simp[gJ,ig]
      refine hve▸db.2 ⟨i3,j3,fun x hx y hy e=>?_⟩
      have s1:=pq eK hk' i1 i2 x hx
      have s2:=pq eK hk' j1 j2 y hy
      rw[←e,s1] at s2
      exact h2 s2
end
def iJ(cf:List (Nat×Edge)):List Nat:=cf.map Prod.fst
structure YH(N:Nat)(af:List Step)(n from_:Nat)(cf:List (Nat×Edge)):Prop where
 head:(iJ cf)[0]?=some from_
 Wd:(iJ cf).Nodup
 lt:∀v∈iJ cf,v<N
 by_:∀(j:Nat)(v:Nat)(e:Edge),cf[j]?=some (v,e)→0<j→e.step<n∧ig af e=v∧∃i,i<j∧(iJ cf)[i]?=some (gC af e)
def Seen(af:List Step)(n:Nat)(cf:List (Nat×Edge))(v:Nat):Prop:=∀k,k<n→(vA af k=v→vB af k∈iJ cf)∧(vB af k=v→vA af k∈iJ cf)
def u6(af:List Step)(n:Nat)(cf:List (Nat×Edge))(i:Nat):Prop:=∀j v,j<i→(iJ cf)[j]?=some v→Seen af n cf v
theorem j7{N:Nat}:∀{l:List Nat},l.Nodup→(∀v∈l,v<N)→l.length≤N:=by
 intro l h1 h2
 have:=(List.nodup_range (n:=N))
 have hs:l.length≤(bt N).length:=List.Nodup.length_le_of_subset h1 fun v hv=>fb.2 (h2 v hv)
 simpa using hs
theorem tX(cf:List (Nat×Edge)):(iJ cf).length=cf.length:=by simp[iJ]
theorem jH(a b:List (Nat×Edge)):iJ (a++b)=iJ a++iJ b:=by simp[iJ]
theorem Q0{N:Nat}{af:List Step}{n f:Nat}{cf:List (Nat×Edge)}(h:YH N af n f cf):cf.length≤N:=by
 rw[←tX]
 exact j7 h.Wd h.lt
theorem R5{N:Nat}{af:List Step}{n f:Nat}(hf:f<N)(e:Edge):YH N af n f [(f,e)]:=
 ⟨rfl,by simp[iJ],fun v hv=>by simp[iJ] at hv;omega,fun j v e h hj=>by
  cases j with
  | zero=>omega
  | succ j=>simp at h⟩
theorem Qq{N:Nat}{af:List Step}{n f:Nat}{cf:List (Nat×Edge)}(h:YH N af n f cf){e:Edge}{i v:Nat}(he:e.step<n)(hi:(iJ cf)[i]?=some v)(hs:gC af e=v)(hn:ig af e∉iJ cf)(mr:ig af e<N) :
 YH N af n f (cf++[(ig af e,e)]):=by
 have hl:=tX cf
 have hi2:i<cf.length:=by rw[←hl];exact(bA.1 hi).1
 refine⟨?_,?_,?_,?_⟩
 ·rw[jH,bj (by omega)];exact h.head
 ·rw[jH]
  refine db.2 ⟨h.Wd,by simp[iJ],fun x hx y hy e1=>?_⟩
  simp only[iJ,aQ,di,ay,bn,or_false] at hy
  rw[e1,hy] at hx
  exact hn hx
 ·intro x hx
  rw[jH] at hx
  rcases aR.1 hx with hx|hx
  ·exact h.lt x hx
  ·simp only[iJ,aQ,di,ay,bn,or_false] at hx
   omega
 ·intro j w x hx hj
  rcases eM j cf.length with h1|h1|h1
  ·rw[bj h1] at hx
   obtain⟨a1,a2,k,a3,a4⟩:=h.by_ j w x hx hj
   exact⟨a1,a2,k,a3,by rw[jH,bj (by omega)];exact a4⟩
  ·subst h1
   rw[bu (aI _)] at hx
   simp only[kj,gw,Option.some.injEq,Prod.mk.injEq] at hx
   obtain⟨rfl,rfl⟩:=hx
   exact⟨he,rfl,i,hi2,by rw[jH,bj (by omega),hi,hs]⟩
  ·rw[bq (by simp;omega)] at hx
   cases hx
theorem Jl{af:List Step}{n:Nat}{a b:List (Nat×Edge)}{v:Nat}(h:Seen af n a v):Seen af n (a++b) v:=fun k hk=>by
 rw[jH]
 exact⟨fun e=>dp _ ((h k hk).1 e),fun e=>dp _ ((h k hk).2 e)⟩
theorem AW{af:List Step}{n:Nat}{a b:List (Nat×Edge)}{i:Nat}(hi:i≤a.length)(h:u6 af n a i):u6 af n (a++b) i:=fun j v hj hv=>by
 rw[jH,bj (by rw[tX];omega)] at hv
 exact Jl (h j v hj hv)
theorem K1{af:List Step}{n:Nat}{cf:List (Nat×Edge)}{i v:Nat}(h:u6 af n cf i)(hv:(iJ cf)[i]?=some v)(hs:Seen af n cf v):u6 af n cf (i+1):=fun j w hj hw=>by
 rcases bU j i with h1|h1
 ·exact h j w h1 hw
 ·obtain rfl:j=i:=by omega
  rw[hv] at hw
  obtain rfl:=Option.some.inj hw
  exact hs
theorem AZ{af:List Step}{n:Nat}{cf:List (Nat×Edge)}(h:u6 af n cf cf.length):∀{es:List Edge}{a b:Nat},oA n es→pG af a es b→a∈iJ cf→b∈iJ cf
 | [],a,b,_,hw,ha=>by simp only[pG] at hw;rw[←hw];exact ha
 | e::es,a,b,hi,hw,ha=>by
   obtain⟨j,hj,hj2⟩:=List.mem_iff_getElem.1 ha
   have hs:=h j a (by rw[←tX];exact hj) (by rw[ah hj,hj2])
   have he:=hi e (by simp)
   refine AZ h (fun x hx=>hi x (bl _ hx)) hw.2 ?_
   have h1:=hw.1
   unfold gC at h1
   unfold ig
   cases hb:e.back
   ·rw[hb] at h1
    simp only[ax,if_false] at h1⊢
    exact(hs e.step he).1 h1
   ·rw[hb] at h1
    simp only[if_true] at h1⊢
    exact(hs e.step he).2 h1
structure VK(af:List Step)(n to:Nat)(cf:List (Nat×Edge))(j t:Nat)(out:List Edge):Prop where
 at_:(iJ cf)[j]?=some t
 in_:oA n out.reverse
 walk:pG af t out.reverse to
 Wd:(gJ af t out.reverse).Nodup
 IU:∀w∈out.reverse.map (ig af),∃i,j<i∧(iJ cf)[i]?=some w
theorem Qm{af:List Step}{n to:Nat}{cf:List (Nat×Edge)}{j:Nat}(h:(iJ cf)[j]?=some to):VK af n to cf j to []:=
 ⟨h,fun e he=>by simp at he,rfl,by simp[gJ],fun w hw=>by simp at hw⟩
theorem V4{l:List Nat}(h:l.Nodup){i j v:Nat}(hi:l[i]?=some v)(hj:l[j]?=some v):i=j:=by
 obtain⟨h1,h2⟩:=bA.1 hi
 obtain⟨h3,h4⟩:=bA.1 hj
 exact(List.getElem_inj h).1 (h2.trans h4.symm)
theorem S2{N:Nat}{af:List Step}{n f to:Nat}{cf:List (Nat×Edge)}{j t:Nat}{out:List Edge}{e:Edge}(hm:YH N af n f cf)(h:VK af n to cf j t out)(he:cf[j]?=some (t,e))(hj:0<j) :
 ∃i,i<j∧VK af n to cf i (gC af e) (out++[e]):=by
 obtain⟨h1,h2,i,h3,h4⟩:=hm.by_ j t e he hj
 have IU:∀w∈(out++[e]).reverse.map (ig af),∃k,i<k∧(iJ cf)[k]?=some w:=by
  intro w hw
  simp only[nd,oS,List.reverse_nil,bB,bz,aQ,ay] at hw
  rcases hw with e1|hw
  ·exact⟨j,h3,by rw[e1,h2];exact h.at_⟩
  ·obtain⟨k,k1,k2⟩:=h.IU w hw
   exact⟨k,by omega,k2⟩
 refine⟨i,h3,h4,?_,?_,?_,IU⟩
 ·intro x hx
  simp only[nd,oS,List.reverse_nil,bB,bz,ay] at hx
  rcases hx with e1|hx
  ·rw[e1];exact h1
  ·exact h.in_ x hx
 ·simp only[nd,oS,List.reverse_nil,bB,bz,pG,true_and]
  rw[h2]
  exact h.walk
 ·refine cE.2 ⟨fun hmem=>?_,?_⟩
  ·obtain⟨k,k1,k2⟩:=IU _ hmem
   have:=V4 hm.Wd h4 k2
   omega
  ·have:=h.Wd
   simp only[nd,oS,List.reverse_nil,bB,bz,aQ]
   rw[h2]
   exact this
theorem V1{ae:List Term}{eqs:List iA}{af:List Step}{n f to:Nat}{cf:List (Nat×Edge)}{j:Nat}{out:List Edge}(eK:lC ae eqs af)(hn:n≤af.length)(hf:f<ae.length)(h:VK af n to cf j f out):out.reverse=lF ae.length af n f to:=
 r4 eK hn hf h.in_ h.walk h.Wd
theorem mw{α:Type}{l:List α}{i:Nat}{d:α}(h:i<l.length):l.getD i d∈l:=by
 rw[az,ah h]
 exact ak h
theorem getD_at{α:Type}{l:List α}{i:Nat}{d:α}(h:i<l.length):l.getD i d=l[i]:=by
 rw[az,ah h]
 rfl
structure G9(n:Nat)(r:cz):Prop where
 jA:dE r.jA=true
 len:r.fK.length=n
 bd:∀u∈r.fK,0≤u∧u≤1000000
def wJ(n:Nat)(rows:List cz):Prop:=rows.length≤200∧∀r∈rows,G9 n r
theorem G9.RG{n:Nat}{r:cz}(h:G9 n r)(v:Nat):-1000000≤bS r v∧bS r v≤1000000:=by
 obtain⟨h1,h2,_⟩:=gp.1 h.jA
 unfold bS
 rcases bU v r.jA.aG.length with h3|h3
 ·exact h2 _ (mw h3)
 ·rw[az,bq h3]
  exact⟨by decide,by decide⟩
theorem S0(n i:Nat):(sH n i).length=n:=by simp[sH]
theorem Tl{n i:Nat}:∀u∈sH n i,0≤u∧u≤1000000:=by
 intro u hu
 rcases List.mem_or_eq_of_mem_set hu with h|h
 ·rw[(List.mem_replicate.1 h).2];omega
 ·rw[h];omega
theorem KE(ls:List ia):(bH ls).length=ls.length:=by simp[bH]
theorem CK{ls:List ia}(h:fH ls=true):wJ ls.length (bH ls):=by
 simp only[fH,ai,decide_eq_true_eq,cd] at h
 refine⟨by rw[KE];omega,fun r hr=>?_⟩
 simp only[bH,bD,fb] at hr
 obtain⟨i,hi,rfl⟩:=hr
 exact⟨h.2 _ (mw hi),S0 _ _,Tl⟩
theorem Ej{n:Nat}{a b:cz}{v:Nat}(ha:G9 n a)(hb:G9 n b)(h1:0<bS a v)(h2:bS b v<0) :
 (1≤ug a b v∧ug a b v≤1000000)∧(1≤o0 a b v∧o0 a b v≤1000000)∧(1≤oZ a b v∧oZ a b v≤1000000):=by
 have ca:=ha.RG v
 have cb:=hb.RG v
 have key:∀{x y:Int},0<x→0<y→x≤1000000→(1≤(bK x y:Int)∧(bK x y:Int)≤x)∧(1≤x.tdiv (bK x y)∧x.tdiv (bK x y)≤x):=by
  intro x y hx hy hm
  have g1:0<bK x y:=Int.gcd_pos_of_ne_zero_left _ (by omega)
  have g2:(bK x y:Int)∣x:=Int.gcd_dvd_left ..
  have g3:(bK x y:Int)≤x:=Int.le_of_dvd hx g2
  refine⟨⟨by omega,g3⟩,?_,?_⟩
  ·rw[jM (by omega)]
   exact Int.le_ediv_of_mul_le (by omega) (by omega)
  ·rw[jM (by omega)]
   exact Int.ediv_le_self _ (by omega)
 have k1:=key h1 (y:=-(bS b v)) (by omega) ca.2
 have k2:=key (x:=-(bS b v)) (y:=bS a v) (by omega) h1 (by omega)
 rw[Int.gcd_comm] at k2
 unfold o0 oZ ug
 omega
theorem QU:∀{m n:Int}{as bs:List Int},(0≤m∧m≤1000000)→(0≤n∧n≤1000000)→(∀u∈as,0≤u∧u≤1000000)→(∀u∈bs,0≤u∧u≤1000000)→∀u∈comb m n as bs,0≤u∧u≤2000000000000
 | _,_,[],_,_,_,_,_,u,hu=>by simp[comb] at hu
 | _,_,_::_,[],_,_,_,_,u,hu=>by simp[comb] at hu
 | m,n,a::as,b::bs,hm,hn,h1,h2,u,hu=>by
   simp only[comb,ay] at hu
   rcases hu with e|hu
   ·have ha:=h1 a (by simp)
    have hb:=h2 b (by simp)
    have p1:0≤m*a:=Int.mul_nonneg hm.1 ha.1
    have p2:0≤n*b:=Int.mul_nonneg hn.1 hb.1
    have p3:=(dj hm.1 hm.2 (b:=a) ⟨by omega,ha.2⟩).2
    have p4:=(dj hn.1 hn.2 (b:=b) ⟨by omega,hb.2⟩).2
    rw[e];omega
   ·exact QU hm hn (fun x hx=>h1 x (bl _ hx)) (fun x hx=>h2 x (bl _ hx)) u hu
theorem R0{a b:ia}{m n:Int}(h:(dN a m b n).2=true):dE (dN a m b n).1=true:=by
 unfold dN jl at h⊢
 split
 ·rename_i h1
  rw[if_pos h1] at h
  split
  ·rename_i h2;exact h2
  ·rename_i h2;rw[if_neg h2] at h;cases h
 ·rename_i h1;rw[if_neg h1] at h;cases h
theorem Vv{n:Nat}{a b:cz}{v:Nat}(ha:G9 n a)(hb:G9 n b)(h1:0<bS a v)(h2:bS b v<0)(h:tx a b v=true):G9 n (Ap a b v):=by
 simp only[tx,ai,cd,decide_eq_true_eq] at h
 obtain⟨_,hp,hq⟩:=Ej ha hb h1 h2
 refine⟨R0 h.1,?_,fun u hu=>⟨?_,h.2 u hu⟩⟩
 ·show(comb _ _ _ _).length=n
  rw[kh (by rw[ha.len,hb.len]),ha.len]
 ·exact(QU ⟨by omega,hq.2⟩ ⟨by omega,hp.2⟩ ha.bd hb.bd u hu).1
theorem OO{a:cz}{v:Nat}{rows:List cz}{p:cz×cz}(h:p∈pC a v rows):p.1=a∧p.2∈rows∧0<bS p.1 v∧bS p.2 v<0:=by
 simp only[pC,List.mem_filterMap] at h
 obtain⟨b,hb,e⟩:=h
 split at e
 ·rename_i hc
  simp only[Option.some.injEq] at e
  rw[←e]
  exact⟨rfl,hb,hc.1,hc.2⟩
 ·cases e
theorem CB{n v:Nat}:∀{ps:List (cz×cz)}{out r:List cz},(∀p∈ps,G9 n p.1∧G9 n p.2∧0<bS p.1 v∧bS p.2 v<0)→wJ n out→mF v ps out=some r→wJ n r
 | [],out,r,_,ho,h=>by
   simp only[mF,Option.some.injEq] at h
   rw[←h];exact ho
 | (a,b)::ps,out,r,hp,ho,h=>by
   rw[mF] at h
   split at h
   ·rename_i hc
    obtain⟨g1,g2,g3,g4⟩:=hp (a,b) (by simp)
    refine CB (fun p hq=>hp p (bl _ hq)) ⟨by simp;omega,fun x hx=>?_⟩ h
    rcases aR.1 hx with e|e
    ·exact ho.2 x e
    ·simp only[ay,bn,or_false] at e
     rw[e]
     exact Vv g1 g2 g3 g4 hc.1
   ·cases h
theorem SI{n v:Nat}{all rows:List cz}(h1:∀r∈all,G9 n r)(h2:∀r∈rows,G9 n r):∀p∈o5 all rows v,G9 n p.1∧G9 n p.2∧0<bS p.1 v∧bS p.2 v<0:=by
 intro p hp
 simp only[o5,fF] at hp
 obtain⟨a,ha,hb⟩:=hp
 obtain⟨e1,e2,e3,e4⟩:=OO hb
 exact⟨e1▸h2 a ha,h1 _ e2,e3,e4⟩
theorem kd{n v:Nat}{rows r:List cz}(h:wJ n rows)(hr:gU rows v=some r):wJ n r:=
 CB (SI h.2 h.2) ⟨Nat.le_trans (List.length_filter_le _ _) h.1,fun x hx=>h.2 x (List.mem_filter.1 hx).1⟩ hr
theorem CW{a:cz}{v j:Nat}{rows:List cz}(h:j<rows.length):pC a v (rows.drop j)=(if 0<bS a v∧bS rows[j] v<0 then [(a,rows[j])] else [])++pC a v (rows.drop (j+1)):=by
 unfold pC
 rw[aj h,List.filterMap_cons]
 split<;>simp_all
theorem M5{a:cz}{v:Nat}{rows:List cz}(h:¬0<bS a v):pC a v rows=[]:=by
 unfold pC
 refine List.filterMap_eq_nil_iff.2 fun b _=>?_
 rw[if_neg (by omega)]
theorem CO{v i:Nat}{all rows:List cz}(h:i<rows.length):o5 all (rows.drop i) v=pC rows[i] v all++o5 all (rows.drop (i+1)) v:=by
 unfold o5
 rw[aj h,List.flatMap_cons]
theorem Dd{α:Type}{p:α→Bool}{l:List α}{i:Nat}(h:i<l.length):(l.take (i+1)).filter p=(l.take i).filter p++(if p l[i] then [l[i]] else []):=by
 rw[bC,ah h,List.filter_append]
 congr 1
 simp only[Option.toList_some,List.filter_cons,List.filter_nil]
theorem G8(xs:List Rat)(sum:Rat):k8 [] xs sum=some sum:=by cases xs<;>rfl
theorem On(v i:Nat)(xs:List Rat)(sum:Rat):qK v i [] xs sum=some sum:=by cases xs<;>rfl
theorem Nd{v i:Nat}{cs:List Int}{xs:List Rat}(h:i<cs.length)(h':i<xs.length)(sum:Rat):qK v i (cs.drop i) (xs.drop i) sum=if i=v then qK v (i+1) (cs.drop (i+1)) (xs.drop (i+1)) sum else if(plus sum (-cs[i]) xs[i]).2 then qK v (i+1) (cs.drop (i+1)) (xs.drop (i+1)) (plus sum (-cs[i]) xs[i]).1 else none:=by
 rw[aj h,aj h',qK]
theorem MZ{i:Nat}{cs:List Int}{xs:List Rat}(h:i<cs.length)(h':i<xs.length)(sum:Rat):k8 (cs.drop i) (xs.drop i) sum=if(plus sum cs[i] xs[i]).2 then k8 (cs.drop (i+1)) (xs.drop (i+1)) (plus sum cs[i] xs[i]).1 else none:=by
 rw[aj h,aj h',k8]
theorem LD{v i:Nat}{aB:List Rat}{rows:List cz}(h:i<rows.length)(lo hi:Option Rat):oG v aB (rows.drop i) lo hi=if bS rows[i] v=0 then oG v aB (rows.drop (i+1)) lo hi else match mU rows[i].jA v aB with
 | none=>none
 | some b=>if 0<bS rows[i] v then oG v aB (rows.drop (i+1)) lo (if lower b hi then some b else hi) else oG v aB (rows.drop (i+1)) (if upper b lo then some b else lo) hi:=by
 rw[aj h,oG]
 try rfl
theorem CQ{n d:Int}(h:(ic n d).2=false):(ic n d).1=jD:=by
 unfold ic at h⊢
 split
 ·rfl
 ·rename_i h0
  rw[if_neg h0] at h
  simp only at h⊢
  generalize (⟨_,_⟩:Rat)=x at h⊢
  cases hx:bV x
  ·simp
  ·simp[hx] at h
theorem sG{a b:Rat}(h:(cY a b).2=false):(cY a b).1=jD:=by
 unfold cY at h⊢
 split
 ·rename_i h0;rw[if_pos h0] at h;exact CQ h
 ·rfl
theorem Di{a b:Rat}(h:(cq a b).2=false):(cq a b).1=jD:=by
 unfold cq at h⊢
 split
 ·rename_i h0;rw[if_pos h0] at h;exact CQ h
 ·rfl
theorem L6{a b:Rat}(h:(qE a b).2=false):(qE a b).1=jD:=by
 unfold qE at h⊢
 split
 ·rename_i h0;rw[if_pos h0] at h;exact Di h
 ·rfl
theorem Il{x:Rat×Bool}(h:x.2=false→x.1=jD):(zz x).getD jD=x.1∧(zz x).isSome=x.2:=by
 unfold zz
 cases hx:x.2
 ·rw[if_neg (by simp),h hx];exact⟨rfl,rfl⟩
 ·rw[if_pos rfl];exact⟨rfl,rfl⟩
theorem KJ:∀{l h:Option Rat},(kH l h).2=false→(kH l h).1=jD
 | some _,some _,h=>L6 h
 | none,some _,h=>sG h
 | some _,none,h=>sG h
 | none,none,h=>by cases h
theorem sK{rows:List cz}{v:Nat}{aB:List Rat}{st:List (List cz)}(h:valueOf rows v aB=none):me (rows::st) v aB=none:=by
 rw[me,h]
theorem sq{rows:List cz}{v:Nat}{aB:List Rat}{st:List (List cz)}{x:Rat}(h:valueOf rows v aB=some x):me (rows::st) v aB=me st (v+1) (aB.set v x):=by
 rw[me,h]
theorem Ni{l:List Rat}{i:Nat}{x:Rat}:(br l).set i (eO x)=br (l.set i x):=by simp[br,ko]
theorem qd{l:List Rat}{i:Nat}{x:Rat}(h:i<l.length):(br l).set i (sj (row (br l) i) 0 [.val (.int .i64 x.N),.val (.int .i64 x.D)])=br (l.set i x):=by
 rw[wE h,←Ni]
 rfl
theorem mJ{s n:Nat}{p:Nat×Nat}:p∈dC s n↔s≤p.1∧p.1<p.2∧p.2<n:=by
 obtain⟨i,k⟩:=p
 simp only[dC,fF,bD,List.mem_range'_1,Prod.mk.injEq]
 constructor
 ·rintro⟨i',h1,k',h2,rfl,rfl⟩;omega
 ·rintro⟨h1,h2,h3⟩
  exact⟨i,by omega,k,by omega,rfl,rfl⟩
theorem Dv{i n:Nat}(h:i<n):dC i n=(dF (i+1) (n-(i+1))).map (fun k=>(i,k))++dC (i+1) n:=by
 unfold dC
 rw[nY h]
 rfl
theorem oL{i n:Nat}(h:n≤i):dC i n=[]:=by
 unfold dC
 rw[pE h]
 rfl
theorem kL{n:Nat}{p:Nat→Nat→Bool}{q:Nat×Nat}(h:b9 n p=some q):q.1<q.2∧q.2<n∧p q.1 q.2=true:=by
 have h1:=List.find?_some h
 have h2:=mJ.1 (eX h)
 exact⟨h2.2.1,h2.2.2,h1⟩
theorem xe{n:Nat}{p:Nat→Nat→Bool}(h:b9 n p=none){i k:Nat}(h1:i<k)(h2:k<n):p i k=false:=by
 have:=List.find?_eq_none.1 h (i,k) (mJ.2 ⟨bh _,h1,h2⟩)
 simpa using this
theorem countP_le{α:Type}{p q:α→Bool}:∀{l:List α},(∀x∈l,p x=true→q x=true)→l.countP p≤l.countP q
 | [],_=>aI _
 | x::l,h=>by
   have:=countP_le (l:=l) fun y hy=>h y (bl _ hy)
   have hx:=h x (by simp)
   simp only[List.countP_cons]
   cases hp:p x
   ·simp;omega
   ·simp[hx hp];omega
theorem Ct{α:Type}{p q:α→Bool}:∀{l:List α}{x:α},(∀x∈l,p x=true→q x=true)→x∈l→p x=false→q x=true→l.countP p<l.countP q
 | y::l,x,h,hx,hp,hq=>by
   simp only[List.countP_cons]
   rcases ay.1 hx with e|e
   ·have:=countP_le (l:=l) fun y hy=>h y (bl _ hy)
    rw[←e,hp,hq]
    simp;omega
   ·have:=Ct (l:=l) (fun y hy=>h y (bl _ hy)) e hp hq
    have hy:=h y (by simp)
    cases hpy:p y
    ·simp;omega
    ·simp[hy hpy];omega
theorem vp(nums:List Term)(out:List Nat)(e:iA):(eU nums out e).length=out.length:=by
 unfold eU
 split<;>simp
theorem rl(nums:List Term)(eqs:List iA):(ke nums eqs).length=nums.length:=by
 unfold ke
 have:∀(l:List iA)(c:List Nat),(l.foldl (eU nums) c).length=c.length:=by
  intro l
  induction l with
  | nil=>intro c;rfl
  | cons s l ih=>intro c;rw[gl,ih,vp]
 rw[this,fO]
theorem F3(nums:List Term)(eqs:List iA)(e:iA):ke nums (eqs++[e])=eU nums (ke nums eqs) e:=by
 rw[ke,mo];rfl
theorem HL{nums:List Term}{out:List Nat}{e:iA}{i k:Nat}(hi:i<out.length)(hk:k<out.length)(h:cl out i=cl out k):cl (eU nums out e) i=cl (eU nums out e) k:=by
 unfold eU
 split
 ·exact h
 ·rw[vo hi,vo hk,h]
theorem Jo(a b:List bp):bc (a++b)=bc a++bc b:=by simp[bc]
theorem ND(a b:Term):bc [gP a b]=[⟨a,b⟩]:=rfl
theorem Me{nums:List Term}{ab more:List bp}{i k:Nat}(hi:i<nums.length)(hk:k<nums.length)(h:linked nums ab i k=true):linked nums (ab++more) i k=true:=by
 simp only[linked,decide_eq_true_eq] at h⊢
 rw[Jo]
 generalize bc more=es
 generalize bc ab=ds at h
 induction es generalizing ds with
 | nil=>rw[bF];exact h
 | cons e es ih=>
   have:=ih (ds++[e]) (by
    rw[F3]
    exact HL (by rw[rl];exact hi) (by rw[rl];exact hk) h)
   rw[bm] at this
   exact this
theorem jI{nums:List Term}(hn:nums.Nodup){i:Nat}(hi:i<nums.length):bM nums nums[i]=i:=by
 have hm:nums[i]∈nums:=ak hi
 have h1:=iL hm
 have h2:=cK.2 hm
 obtain⟨h3,h4⟩:=bA.1 h1
 have:=(List.getElem_inj hn).1 h4
 omega
theorem eW{nums:List Term}{i:Nat}(hi:i<nums.length):nums.getD i aL=nums[i]:=by
 rw[az,ah hi];rfl
theorem OW{nums:List Term}(hn:nums.Nodup){ab:List bp}{i k:Nat}(hi:i<nums.length)(hk:k<nums.length):linked nums (ab++[gP (nums.getD i aL) (nums.getD k aL)]) i k=true:=by
 simp only[linked,decide_eq_true_eq]
 rw[Jo,ND,F3,eU,eW hi,eW hk]
 have e1:=jI hn hi
 have e2:=jI hn hk
 simp only[e1,e2,aH,bo]
 rw[if_neg (by omega),vo (by rw[rl];exact hi),vo (by rw[rl];exact hk)]
 simp
theorem C6{nums:List Term}{ab more:List bp}{i k:Nat}(h:eQ nums ab i k=true):eQ nums (ab++more) i k=true:=by
 simp only[eQ,List.any_append,Bool.or_eq_true] at h⊢
 exact .inl h
theorem FA(a b:Term):(dz a b).no=false:=by
 unfold dz
 split<;>rfl
theorem GL{nums:List Term}{ab:List bp}{i k:Nat}:eQ nums (ab++[dz (nums.getD i aL) (nums.getD k aL)]) i k=true:=by
 simp[eQ,FA]
def qJ(nums:List Term)(ab:List bp)(i k:Nat):Bool:=!linked nums ab i k&&(!eQ nums ab i k&& !eQ nums ab k i)
def room(nums:List Term)(ab:List bp):Nat:=(dC 0 nums.length).countP (fun q=>!linked nums ab q.1 q.2)+(dC 0 nums.length).countP (fun q=>qJ nums ab q.1 q.2)
theorem uQ{nums:List Term}{ab more:List bp}:∀q∈dC 0 nums.length,(!linked nums (ab++more) q.1 q.2)=true→(!linked nums ab q.1 q.2)=true:=by
 intro q hq h
 have hm:=mJ.1 hq
 cases hl:linked nums ab q.1 q.2
 ·rfl
 ·rw[Me (by omega) (by omega) hl] at h;cases h
theorem Mz{nums:List Term}{ab more:List bp}:∀q∈dC 0 nums.length,qJ nums (ab++more) q.1 q.2=true→qJ nums ab q.1 q.2=true:=by
 intro q hq h
 simp only[qJ,ai] at h⊢
 refine⟨uQ q hq h.1,?_,?_⟩
 ·cases hl:eQ nums ab q.1 q.2
  ·rfl
  ·rw[C6 hl] at h;simp at h
 ·cases hl:eQ nums ab q.2 q.1
  ·rfl
  ·have:=h.2.2;rw[C6 hl] at this;cases this
theorem XO{nums:List Term}(hn:nums.Nodup){ab:List bp}{i k:Nat}(h1:i<k)(h2:k<nums.length)(h:linked nums ab i k=false):room nums (ab++[gP (nums.getD i aL) (nums.getD k aL)])<room nums ab:=by
 unfold room
 have a:=Ct (x:=(i,k)) (uQ (more:=[gP (nums.getD i aL) (nums.getD k aL)])) (mJ.2 ⟨bh _,h1,h2⟩) (by show(!linked nums (ab++[gP (nums.getD i aL) (nums.getD k aL)]) i k)=false;rw[OW hn (show i<nums.length by omega) h2];rfl) (by rw[h];rfl)
 have b:=countP_le (Mz (nums:=nums) (ab:=ab) (more:=[gP (nums.getD i aL) (nums.getD k aL)]))
 omega
theorem Jd{nums:List Term}{ab:List bp}{i k:Nat}(h1:i<k)(h2:k<nums.length)(h:qJ nums ab i k=true){l:bp}(hl:l=dz (nums.getD i aL) (nums.getD k aL)∨l=dz (nums.getD k aL) (nums.getD i aL)):room nums (ab++[l])<room nums ab:=by
 unfold room
 have a:=countP_le (uQ (nums:=nums) (ab:=ab) (more:=[l]))
 have b:=Ct (x:=(i,k)) (Mz (nums:=nums) (ab:=ab) (more:=[l])) (mJ.2 ⟨bh _,h1,h2⟩) (by
  rcases hl with rfl|rfl
  ·simp only[qJ,GL];simp
  ·simp only[qJ,GL];simp) h
 omega
theorem room_le{nums:List Term}(h:nums.length≤4)(ab:List bp):room nums ab≤12:=by
 have a:=List.countP_le_length (p:=fun q:Nat×Nat=>!linked nums ab q.1 q.2) (l:=dC 0 nums.length)
 have b:=List.countP_le_length (p:=fun q:Nat×Nat=>qJ nums ab q.1 q.2) (l:=dC 0 nums.length)
 have c:(dC 0 nums.length).length≤6:=by
  have key:∀n,n≤4→(dC 0 n).length≤6:=by decide
  exact key _ h
 unfold room
 omega
def pd(af:List Step)(v i:Nat):Option Edge:=if vB af i=v then some ⟨i,true⟩ else if vA af i=v then some ⟨i,false⟩ else none
def vr(rec_:Nat→List Nat→Option (List Edge))(af:List Step)(v:Nat)(dJ:List Nat):List Nat→Option (List Edge)
 | []=>none
 | i::is=>match pd af v i with
   | none=>vr rec_ af v dJ is
   | some e=>if ig af e∈dJ then vr rec_ af v dJ is else match rec_ (ig af e) (dJ++[ig af e]) with
     | none=>vr rec_ af v dJ is
     | some r=>some (e::r)
def tt(af:List Step)(n to:Nat):Nat→Nat→List Nat→Option (List Edge)
 | 0,_,_=>none
 | f+1,v,dJ=>if v=to then some [] else vr (tt af n to f) af v dJ (bt n)
def uc(e:Edge):Int:=if e.back then -1-(e.step:Int) else e.step
theorem M9{af:List Step}{v i:Nat}{e:Edge}(h:pd af v i=some e):e.step=i∧gC af e=v:=by
 unfold pd at h
 split at h
 ·rename_i h1;simp only[Option.some.injEq] at h;rw[←h];exact⟨rfl,h1⟩
 ·split at h
  ·rename_i h1;simp only[Option.some.injEq] at h;rw[←h];exact⟨rfl,h1⟩
  ·cases h
def Found(af:List Step)(n to v:Nat)(dJ:List Nat)(es:List Edge):Prop:=oA n es∧pG af v es to∧(gJ af v es).Nodup∧∀w∈es.map (ig af),w∉dJ
theorem EN{af:List Step}{n to v:Nat}{dJ:List Nat}{rec_:Nat→List Nat→Option (List Edge)}(hv:v∈dJ)(hr:∀w seen' es,w∈seen'→rec_ w seen'=some es→Found af n to w seen' es) :
 ∀{is:List Nat}{es:List Edge},(∀i∈is,i<n)→vr rec_ af v dJ is=some es→Found af n to v dJ es
 | [],es,_,h=>by cases h
 | i::is,es,hi,h=>by
   have more:=EN (is:=is) (es:=es) hv hr fun j hj=>hi j (bl _ hj)
   simp only[vr] at h
   split at h
   ·exact more h
   ·rename_i e he
    obtain⟨h1,h2⟩:=M9 he
    split at h
    ·exact more h
    ·rename_i hs
     split at h
     ·exact more h
     ·rename_i r jd
      simp only[Option.some.injEq] at h
      obtain⟨a1,a2,a3,a4⟩:=hr _ _ _ (by simp) jd
      rw[←h]
      refine⟨fun x hx=>?_,⟨h2,a2⟩,?_,?_⟩
      ·rcases ay.1 hx with e1|hx
       ·rw[e1,h1];exact hi i (by simp)
       ·exact a1 x hx
      ·refine cE.2 ⟨fun hm=>?_,?_⟩
       ·simp only[aQ,ay] at hm
        rcases hm with e1|hm
        ·rw[e1] at hv;exact hs hv
        ·exact a4 v hm (dp _ hv)
       ·exact a3
      ·intro w hw hws
       simp only[aQ,ay] at hw
       rcases hw with e1|hw
       ·rw[e1] at hws;exact hs hws
       ·exact a4 w hw (dp _ hws)
theorem EX{af:List Step}{n to:Nat}:∀(f v:Nat)(dJ:List Nat)(es:List Edge),v∈dJ→tt af n to f v dJ=some es→Found af n to v dJ es
 | 0,_,_,_,_,h=>by cases h
 | f+1,v,dJ,es,hv,h=>by
   rw[tt] at h
   split at h
   ·rename_i e
    simp only[Option.some.injEq] at h
    rw[←h]
    exact⟨fun x hx=>by simp at hx,e,by simp[gJ],fun w hw=>by simp at hw⟩
   ·exact EN hv (fun w s es hw hr=>EX f w s es hw hr) (fun i hi=>fb.1 hi) h
theorem Ii{af:List Step}{v:Nat}{dJ:List Nat}{rec_:Nat→List Nat→Option (List Edge)}{e:Edge}(he:pd af v e.step=some e)(hs:ig af e∉dJ)(hr:(rec_ (ig af e) (dJ++[ig af e])).isSome=true) :
 ∀{is:List Nat},e.step∈is→(vr rec_ af v dJ is).isSome=true
 | i::is,hm=>by
   rcases ay.1 hm with e1|hm
   ·subst e1
    simp only[vr,he,if_neg hs]
    obtain⟨r,jd⟩:=cH.1 hr
    simp[jd]
   ·have more:=Ii he hs hr hm
    simp only[vr]
    split
    ·exact more
    ·split
     ·exact more
     ·split
      ·exact more
      ·rfl
section
variable{ae:List Term}{eqs:List iA}{af:List Step}(eK:lC ae eqs af)
include eK
theorem Nj{e:Edge}(h:e.step<af.length):pd af (gC af e) e.step=some e:=by
 have ju:=(og eK h).ne
 obtain⟨k,b⟩:=e
 unfold pd gC
 cases b
 ·simp only[ax,if_false]
  rw[if_neg (fun he=>ju (by simp only[vA,vB] at he;rw[he])),if_pos True.intro]
 ·simp
theorem Ix{n to:Nat}(hn:n≤af.length):∀(es:List Edge)(f v:Nat)(dJ:List Nat),dJ.Nodup→(∀w∈dJ,w<ae.length)→ae.length+1≤f+dJ.length→oA n es→pG af v es to→(gJ af v es).Nodup→(∀w∈es.map (ig af),w∉dJ) →
 (tt af n to f v dJ).isSome=true
 | es,0,v,dJ,h1,h2,h3,_,_,_,_=>by
   have:=j7 h1 h2
   omega
 | [],f+1,v,dJ,_,_,_,_,hw,_,_=>by
   simp only[pG] at hw
   rw[tt,if_pos hw];rfl
 | e::es,f+1,v,dJ,h1,h2,h3,hi,hw,hnd,hs=>by
   have he:=hi e (by simp)
   obtain⟨w1,w2⟩:=hw
   have hto:to∈(e::es).map (ig af):=by
    have:=Fu w2
    simpa[gJ] using this
   have hv:v≠to:=fun h=>(cE.1 hnd).1 (h▸hto)
   rw[tt,if_neg hv]
   have hen:ig af e∉dJ:=hs _ (by simp)
   refine Ii (e:=e) (by rw[←w1];exact Nj eK (by omega)) hen ?_ (fb.2 he)
   refine Ix hn es f _ _ (db.2 ⟨h1,by simp,fun x hx y hy e1=>?_⟩) (fun w hw=>?_) (by simp;omega) (fun x hx=>hi x (bl _ hx)) w2 (cE.1 hnd).2 (fun w hw hws=>?_)
   ·simp only[ay,bn,or_false] at hy
    rw[e1,hy] at hx
    exact hen hx
   ·rcases aR.1 hw with hw|hw
    ·exact h2 w hw
    ·simp only[ay,bn,or_false] at hw
     rw[hw];exact xN eK (by omega)
   ·rcases aR.1 hws with hws|hws
    ·exact hs w (by simp only[aQ,ay];exact .inr hw) hws
    ·simp only[ay,bn,or_false] at hws
     have:=(cE.1 (cE.1 hnd).2).1
     rw[hws] at hw
     exact this hw
theorem Wu{n a b:Nat}(hn:n≤af.length)(ha:a<ae.length)(hb:b<ae.length)(h:cl (aV ae.length af n) a=cl (aV ae.length af n) b):tt af n b ae.length a [a]=some (lF ae.length af n a b):=by
 obtain⟨i1,i2,i3⟩:=rr eK hn ha hb h
 have hsome:=Ix eK hn (to:=b) _ ae.length a [a] (by simp) (fun w hw=>by simp at hw;omega) (by simp) i1 i2 i3 (fun w hw hws=>by
  simp only[ay,bn,or_false] at hws
  rw[hws] at hw
  exact(cE.1 i3).1 hw)
 obtain⟨es,he⟩:=cH.1 hsome
 obtain⟨f1,f2,f3,f4⟩:=EX _ _ _ _ (by simp) he
 rw[he,r4 eK hn ha f1 f2 f3]
end
theorem PG{n:Int}:lj n 0=(jD,false):=by
 unfold lj ic
 split<;>simp
theorem FF{n d:Int}(h:1000000000<ri n∨1000000000<ri d):lj n d=(jD,false):=by
 unfold lj
 rw[if_neg]
 simp only[ai,dx]
 rintro⟨h1,h2⟩
 have:=sw.2 h1
 have:=sw.2 h2
 omega
theorem U0{n d:Int}(h1:ri n≤1000000000)(h2:ri d≤1000000000):lj n d=ic n d:=by
 unfold lj
 rw[if_pos]
 simp only[ai,dx]
 exact⟨sw.1 h1,sw.1 h2⟩
theorem MN{n d:Int}(h0:¬d=0)(h:d<0):ic n d=ic (-n) (-d):=by
 have h2:¬ -d<0:=by omega
 have h3:¬ -d=0:=by omega
 unfold ic
 simp only[if_neg h0,if_pos h,if_neg h2,if_neg h3]
def td:List Int→List Rat→Rat→Rat×Bool
 | c::cs,x::xs,sum=>if(cq (whole c) x).2 then(if(cY sum (cq (whole c) x).1).2 then td cs xs (cY sum (cq (whole c) x).1).1 else(jD,false)) else(sum,false)
 | _,_,sum=>(sum,true)
theorem Fb:∀{cs:List Int}{xs:List Rat}{sum:Rat},k8 cs xs sum=zz (td cs xs sum)
 | [],_,sum=>rfl
 | _::_,[],sum=>rfl
 | c::cs,x::xs,sum=>by
   rw[k8,td]
   rcases kE (cq (whole c) x).2 with h1|h1
   ·have e:plus sum c x=cY sum (cq (whole c) x).1:=by rw[plus,if_pos h1]
    rw[e,if_pos h1]
    rcases kE (cY sum (cq (whole c) x).1).2 with h2|h2
    ·rw[if_pos h2,if_pos h2]
     exact Fb
    ·rw[if_neg (by rw[h2];simp),if_neg (by rw[h2];simp)]
     rfl
   ·have e:plus sum c x=(jD,false):=by rw[plus,if_neg (by rw[h1];simp)]
    rw[e,if_neg (by simp),if_neg (by rw[h1];simp)]
    rfl
theorem OK{i:Nat}{cs:List Int}{xs:List Rat}(h:i<cs.length)(h':i<xs.length)(sum:Rat):td (cs.drop i) (xs.drop i) sum=if(cq (whole cs[i]) xs[i]).2 then(if(cY sum (cq (whole cs[i]) xs[i]).1).2 then td (cs.drop (i+1)) (xs.drop (i+1)) (cY sum (cq (whole cs[i]) xs[i]).1).1 else(jD,false)) else(sum,false):=by
 rw[aj h,aj h',td]
theorem RZ(xs:List Rat)(sum:Rat):td [] xs sum=(sum,true):=by cases xs<;>rfl
theorem Jp:∀{cs:List Int}{xs:List Rat}{sum r:Rat},bV sum=true→k8 cs xs sum=some r→bV r=true
 | [],_,sum,r,h,e=>by simp only[k8,Option.some.injEq] at e;rw[←e];exact h
 | _::_,[],sum,r,h,e=>by simp only[k8,Option.some.injEq] at e;rw[←e];exact h
 | c::cs,x::xs,sum,r,h,e=>by
   simp only[k8] at e
   split at e
   ·rename_i h1;exact Jp (QX h1) e
   ·cases e
def m8(v:Nat):Nat→List Int→List Rat→Rat→Rat×Bool
 | i,c::cs,x::xs,sum=>if i=v then m8 v (i+1) cs xs sum else if(cq (whole (-c)) x).2 then(if(cY sum (cq (whole (-c)) x).1).2 then m8 v (i+1) cs xs (cY sum (cq (whole (-c)) x).1).1 else(jD,false)) else(sum,false)
 | _,_,_,sum=>(sum,true)
theorem BE{v:Nat}:∀{i:Nat}{cs:List Int}{xs:List Rat}{sum:Rat},qK v i cs xs sum=zz (m8 v i cs xs sum)
 | _,[],_,sum=>rfl
 | _,_::_,[],sum=>rfl
 | i,c::cs,x::xs,sum=>by
   rw[qK,m8]
   split
   ·exact BE
   ·rcases kE (cq (whole (-c)) x).2 with h1|h1
    ·have e:plus sum (-c) x=cY sum (cq (whole (-c)) x).1:=by rw[plus,if_pos h1]
     rw[e,if_pos h1]
     rcases kE (cY sum (cq (whole (-c)) x).1).2 with h2|h2
     ·rw[if_pos h2,if_pos h2]
      exact BE
     ·rw[if_neg (by rw[h2];simp),if_neg (by rw[h2];simp)]
      rfl
    ·have e:plus sum (-c) x=(jD,false):=by rw[plus,if_neg (by rw[h1];simp)]
     rw[e,if_neg (by simp),if_neg (by rw[h1];simp)]
     rfl
theorem Mj{v i:Nat}{cs:List Int}{xs:List Rat}(h:i<cs.length)(h':i<xs.length)(sum:Rat):m8 v i (cs.drop i) (xs.drop i) sum=if i=v then m8 v (i+1) (cs.drop (i+1)) (xs.drop (i+1)) sum else if(cq (whole (-cs[i])) xs[i]).2 then(if(cY sum (cq (whole (-cs[i])) xs[i]).1).2 then m8 v (i+1) (cs.drop (i+1)) (xs.drop (i+1)) (cY sum (cq (whole (-cs[i])) xs[i]).1).1 else(jD,false)) else(sum,false):=by
 rw[aj h,aj h',m8]
theorem N0(v i:Nat)(xs:List Rat)(sum:Rat):m8 v i [] xs sum=(sum,true):=by cases xs<;>rfl
def gz(l:ia)(v:Nat)(aB:List Rat):Rat×Bool:=
 if(m8 v 0 l.aG aB (whole l.bound)).2 then(if(lj 1 (l.aG.getD v 0)).2 then cq (m8 v 0 l.aG aB (whole l.bound)).1 (lj 1 (l.aG.getD v 0)).1 else((m8 v 0 l.aG aB (whole l.bound)).1,false)) else((m8 v 0 l.aG aB (whole l.bound)).1,false)
theorem P8{l:ia}{v:Nat}{aB:List Rat}:mU l v aB=zz (gz l v aB):=by
 unfold mU gz
 rw[BE]
 generalize m8 v 0 l.aG aB (whole l.bound)=r
 generalize lj 1 (l.aG.getD v 0)=b
 obtain⟨r,o⟩:=r
 obtain⟨b,p⟩:=b
 cases o<;>cases p<;>simp[zz]
def nV(v:Nat):List (cz×cz)→List cz→List cz×Bool
 | [],out=>(out,true)
 | (a,b)::ps,out=>if tx a b v=true∧out.length<200 then nV v ps (out++[Ap a b v]) else(out,false)
def Hw{α:Type}(x:α×Bool):Option α:=if x.2 then some x.1 else none
theorem A7{v:Nat}:∀{ps:List (cz×cz)}{out:List cz},mF v ps out=Hw (nV v ps out)
 | [],out=>rfl
 | (a,b)::ps,out=>by
   rw[mF,nV]
   split
   ·exact A7
   ·rfl
def qk(rows:List cz)(v:Nat):List cz×Bool:=nV v (o5 rows rows v) (rows.filter fun r=>decide (bS r v=0))
theorem NJ{rows:List cz}{v:Nat}:gU rows v=Hw (qk rows v):=A7
theorem vl{rows:List cz}{v:Nat}(h:(qk rows v).2=false):gU rows v=none:=by rw[NJ,Hw,h];rfl
theorem uU{rows:List cz}{v:Nat}(h:(qk rows v).2=true):gU rows v=some (qk rows v).1:=by rw[NJ,Hw,h];rfl
def iu(v:Nat)(aB:List Rat):List cz→Option Rat→Option Rat→(Option Rat×Option Rat)×Bool
 | [],lo,hi=>((lo,hi),true)
 | r::rs,lo,hi=>if bS r v=0 then iu v aB rs lo hi else
   if(gz r.jA v aB).2 then
    (if 0<bS r v then iu v aB rs lo (if lower (gz r.jA v aB).1 hi then some (gz r.jA v aB).1 else hi) else iu v aB rs (if upper (gz r.jA v aB).1 lo then some (gz r.jA v aB).1 else lo) hi)
   else((lo,hi),false)
theorem Bd{v:Nat}{aB:List Rat}:∀{rows:List cz}{lo hi:Option Rat},oG v aB rows lo hi=Hw (iu v aB rows lo hi)
 | [],lo,hi=>rfl
 | r::rs,lo,hi=>by
   rw[oG,iu,P8,zz]
   split
   ·exact Bd
   ·generalize gz r.jA v aB=b
    obtain⟨b,ok⟩:=b
    cases ok
    ·rfl
    ·simp only[if_true]
     split
     ·exact Bd
     ·exact Bd
theorem OS{v i:Nat}{aB:List Rat}{rows:List cz}(h:i<rows.length)(lo hi:Option Rat):iu v aB (rows.drop i) lo hi=if bS rows[i] v=0 then iu v aB (rows.drop (i+1)) lo hi else
 if(gz rows[i].jA v aB).2 then
  (if 0<bS rows[i] v then iu v aB (rows.drop (i+1)) lo (if lower (gz rows[i].jA v aB).1 hi then some (gz rows[i].jA v aB).1 else hi) else iu v aB (rows.drop (i+1)) (if upper (gz rows[i].jA v aB).1 lo then some (gz rows[i].jA v aB).1 else lo) hi)
 else((lo,hi),false):=by
 rw[aj h,iu]
def vE:List (List cz)→Nat→List Rat→List Rat×Bool
 | [],_,aB=>(aB,true)
 | rows::st,v,aB=>
   if(iu v aB rows none none).2 then
    (if(kH (iu v aB rows none none).1.1 (iu v aB rows none none).1.2).2 then vE st (v+1) (aB.set v (kH (iu v aB rows none none).1.1 (iu v aB rows none none).1.2).1)
     else(aB.set v (kH (iu v aB rows none none).1.1 (iu v aB rows none none).1.2).1,false))
   else(aB,false)
theorem Nx:∀{st:List (List cz)}{v:Nat}{aB:List Rat},me st v aB=Hw (vE st v aB)
 | [],v,aB=>rfl
 | rows::st,v,aB=>by
   rw[me,vE,valueOf,Bd,Hw]
   generalize iu v aB rows none none=b
   obtain⟨⟨lo,hi⟩,ok⟩:=b
   cases ok
   ·rfl
   ·simp only[if_true,zz]
    generalize kH lo hi=c
    obtain⟨c,ok⟩:=c
    cases ok
    ·rfl
    ·exact Nx
theorem Oz{st:List (List cz)}{i:Nat}(h:i<st.length)(aB:List Rat):vE (st.drop i) i aB =
 if(iu i aB st[i] none none).2 then
  (if(kH (iu i aB st[i] none none).1.1 (iu i aB st[i] none none).1.2).2 then vE (st.drop (i+1)) (i+1) (aB.set i (kH (iu i aB st[i] none none).1.1 (iu i aB st[i] none none).1.2).1)
   else(aB.set i (kH (iu i aB st[i] none none).1.1 (iu i aB st[i] none none).1.2).1,false))
 else(aB,false):=by
 rw[aj h,vE]
def OE(rows:List cz):List Int:=match rows.find? fun r=>jG r.jA with|some r=>r.fK|none=>[]
theorem RN(v:Nat):gU [] v=some []:=rfl
def pJ(l:List (List cz)):List (List D):=l.map fun x=>[.dP (dQ x)]
theorem Qk(l:List (List cz)):(pJ l).length=l.length:=by simp[pJ]
theorem pD{l:List (List cz)}{i:Nat}(h:i<l.length):row (pJ l) i=[.dP (dQ l[i])]:=by simp[pJ,row,cC,ah h]
theorem uA{l:List (List cz)}{i:Nat}{x:List cz}(h:i<l.length):(pJ l).set i (sj (row (pJ l) i) 0 [.dP (dQ x)])=pJ (l.set i x):=by
 rw[pD h]
 simp[pJ,ko,sj]
attribute [go_sem] Qk pD
def gN(ae:List Term):Prop:=∀t∈ae,∀k∈t.kids,k∈ae
theorem bx{ae:List Term}{t:Term}(h:t∈ae):aH ae t<ae.length:=nI h
theorem b6{ae:List Term}{t:Term}(h:t∈ae):bM ae t=(aH ae t:Int):=by
 have:=cK.2 h
 unfold aH
 omega
theorem Dm{ae:List Term}{c:List Nat}{xs ys:List Term}{i:Nat}(h:i<xs.length)(h':i<ys.length):lA ae c (xs.drop i) (ys.drop i)=(I8 ae c xs[i] ys[i]&&lA ae c (xs.drop (i+1)) (ys.drop (i+1))):=by
 rw[aj h,aj h',lA]
theorem FM{ae:List Term}{c:List Nat}:lA ae c [] []=true:=rfl
theorem zq{ae:List Term}{c:List Nat}:∀{xs ys:List Term},xs.length≠ys.length→lA ae c xs ys=false
 | [],[],h=>(h rfl).elim
 | [],_::_,_=>rfl
 | _::_,[],_=>rfl
 | x::xs,y::ys,h=>by
   rw[lA,zq (by simpa using h),Bool.and_false]
def fB(c:List Nat)(from_ to i:Nat):List Nat:=((c.take i).map fun k=>if k=from_ then to else k)++c.drop i
theorem rT(c:List Nat)(f t i:Nat):(fB c f t i).length=c.length:=by simp[fB];omega
theorem rY{c:List Nat}{f t i:Nat}(h:i<c.length)(h':i<(fB c f t i).length):(fB c f t i)[i]=c[i]:=by
 have:(fB c f t i)[i]?=some c[i]:=by
  unfold fB
  rw[bu (by simp;omega)]
  simp only[dw,bI,nG (Nat.le_of_lt h),kj,List.getElem?_drop,Nat.add_zero]
  exact ah h
 exact(bA.1 this).2
theorem qc{c:List Nat}{f t i:Nat}(h:i<c.length):fB c f t (i+1)=(fB c f t i).set i (if c[i]=f then t else c[i]):=by
 have e:((c.take i).map fun k=>if k=f then t else k).length=i:=by
  rw[dw,bI,nG (Nat.le_of_lt h)]
 unfold fB
 rw[List.set_append_right _ _ (by omega),e,kj,aj h,List.set_cons_zero,bC,ah h,cW,bm]
 rfl
theorem te{c:List Nat}{f t i:Nat}(h:i<c.length)(ju:c[i]≠f):fB c f t (i+1)=fB c f t i:=by
 rw[qc h,if_neg ju]
 conv=>rhs;rw[←List.set_getElem_self (as:=fB c f t i) (i:=i) (h:=by rw[rT];exact h)]
 rw[rY h]
theorem FE{c:List Nat}{a b i:Nat}(h:c.length≤i):fB c (max (cl c a) (cl c b)) (min (cl c a) (cl c b)) i=fU c a b:=by
 unfold fB fU
 rw[List.take_of_length_le h,List.drop_of_length_le h,bF]
theorem tP{l:List Nat}{i n:Nat}(h:i<l.length):(bO l).set i (sj (row (bO l) i) 0 [.val (.int .i64 (n:Int))])=bO (l.set i n):=by
 rw[o7 h,←RT]
 rfl
def qb(e l n:Nat):List (Nat×Nat):=(dF e (l-e)).map (fun e=>(e,l))++jy (l+1) n
theorem wz{l n:Nat}(h:l<n):jy l n=qb 0 l n:=Fp h
theorem yD{e l n:Nat}(h:e<l):qb e l n=(e,l)::qb (e+1) l n:=by
 unfold qb
 rw[nY h];rfl
theorem Bb{e l n:Nat}(h:l≤e):qb e l n=jy (l+1) n:=by
 unfold qb
 rw[pE h];rfl
def vd(ae:List Term)(af:List Step)(vN:Nat→Nat→Nat→mc)(i:Nat):mc:=
 if(hJ af i).given<0 then .mk 5 0 (.mk (ae.getD (vA af i) aL).name []) (((ae.getD (vA af i) aL).kids.zip (ae.getD (vB af i) aL).kids).map fun p=>vN i (aH ae p.1) (aH ae p.2)) else .mk 2 (hJ af i).given aL []
theorem F0(ae:List Term)(af:List Step)(vN:Nat→Nat→Nat→mc)(e:Edge):kJ ae af vN e=if e.back then .mk 3 0 aL [vd ae af vN e.step] else vd ae af vN e.step:=rfl
theorem rU{af:List Step}{i:Nat}(h:i<af.length):hJ af i=af[i]:=by
 rw[hJ,az,ah h];rfl
theorem v7{c:List Nat}{a b m:Nat}(h:∀x∈c,x≤m):∀x∈fU c a b,x≤m:=by
 intro x hx
 simp only[fU,bD] at hx
 obtain⟨y,hy,rfl⟩:=hx
 have hle:∀i,cl c i≤m:=fun i=>by
  rcases bU i c.length with h1|h1
  ·exact h _ (y0 h1)
  ·rw[X6 h1];exact bh _
 have:=hle a
 have:=hle b
 have:=h y hy
 split<;>omega
theorem pj{m:Nat}:∀{c:List Nat},(∀x∈c,x≤m)→c.sum≤c.length*m
 | [],_=>by simp
 | x::c,h=>by
   have h1:=h x (by simp)
   have h2:=pj (c:=c) fun y hy=>h y (bl _ hy)
   simp only[List.sum_cons,a8,Nat.add_mul]
   omega
theorem BS{ae:List Term}{c:List Nat}:∀{xs ys:List Term},lA ae c xs ys=true→xs.length=ys.length∧∀(i:Nat)(h:i<xs.length)(h':i<ys.length),cl c (aH ae xs[i])=cl c (aH ae ys[i])
 | [],[],_=>⟨rfl,fun i h=>by simp at h⟩
 | [],_::_,h=>by cases h
 | _::_,[],h=>by cases h
 | x::xs,y::ys,h=>by
   simp only[lA,ai] at h
   obtain⟨i1,i2⟩:=BS h.2
   refine⟨by simp[i1],fun i h1 h2=>?_⟩
   cases i with
   | zero=>simpa[I8] using h.1
   | succ i=>exact i2 i (by simpa using h1) (by simpa using h2)
theorem Ng{ae:List Term}{c:List Nat}{a b:Nat}(h:alike ae c a b=true):0<(ae.getD a aL).kids.length∧(ae.getD a aL).name=(ae.getD b aL).name∧(ae.getD a aL).kids.length=(ae.getD b aL).kids.length ∧
 ∀(i:Nat)(h:i<(ae.getD a aL).kids.length)(h':i<(ae.getD b aL).kids.length),cl c (aH ae (ae.getD a aL).kids[i])=cl c (aH ae (ae.getD b aL).kids[i]):=by
 simp only[alike,ai,decide_eq_true_eq] at h
 obtain⟨i1,i2⟩:=BS h.2.2
 exact⟨h.1,h.2.1,i1,i2⟩
theorem NA{α β γ:Type}{f:α×β→γ}{xs:List α}{ys:List β}{i:Nat}(h:i<xs.length)(h':i<ys.length):((xs.zip ys).take (i+1)).map f=((xs.zip ys).take i).map f++[f (xs[i],ys[i])]:=by
 rw[bC,ah (by simp;omega),cW]
 simp
theorem RE{rec_:Nat→List Nat→Option (List Edge)}{af:List Step}{v n i:Nat}{dJ:List Nat}(h:i<n):vr rec_ af v dJ (dF i (n-i))=match pd af v i with
 | none=>vr rec_ af v dJ (dF (i+1) (n-(i+1)))
 | some e=>if ig af e∈dJ then vr rec_ af v dJ (dF (i+1) (n-(i+1))) else match rec_ (ig af e) (dJ++[ig af e]) with
   | none=>vr rec_ af v dJ (dF (i+1) (n-(i+1)))
   | some r=>some (e::r):=by
 rw[nY h,vr]
 all_goals rfl
def QP(one:Edge→mc)(t:Term):List Edge→mc
 | []=>.mk 1 0 t []
 | e::es=>ot one (one e) es
theorem Q1(ae:List Term)(af:List Step)(f n a b:Nat):lf ae af (f+1) n a b=QP (kJ ae af (lf ae af f)) (ae.getD a aL) (lF ae.length af n a b):=by
 rw[lf]
 cases lF ae.length af n a b<;>rfl
theorem wP{one:Edge→mc}{t:Term}{way:List Edge}(h:0<way.length):QP one t way=ot one (one way[0]) (way.drop 1):=by
 cases way with
 | nil=>simp at h
 | cons e es=>rfl
theorem Bm{rec_:Nat→List Nat→Option (List Edge)}{af:List Step}{v:Nat}{dJ:List Nat}:∀{l:List Nat}{r:List Edge},vr rec_ af v dJ l=some r→∃e w s r',r=e::r'∧rec_ w s=some r'
 | [],r,h=>by cases h
 | i::l,r,h=>by
   rw[vr] at h
   split at h
   ·exact Bm h
   ·split at h
    ·exact Bm h
    ·split at h
     ·exact Bm h
     ·rename_i hr
      simp only[Option.some.injEq] at h
      exact⟨_,_,_,_,h.symm,hr⟩
theorem A4{af:List Step}{n to:Nat}:∀{f v:Nat}{dJ:List Nat}{r:List Edge},tt af n to f v dJ=some r→r.length≤f
 | 0,_,_,_,h=>by cases h
 | f+1,v,dJ,r,h=>by
   rw[tt] at h
   split at h
   ·simp only[Option.some.injEq] at h
    rw[←h]
    exact bh _
   ·obtain⟨e,w,s,r',rfl,h2⟩:=Bm h
    have:=A4 h2
    simp only[a8]
    omega
end Go.Mod
