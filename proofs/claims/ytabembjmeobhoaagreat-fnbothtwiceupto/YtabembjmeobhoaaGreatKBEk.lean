/-
  What the deciding functions of chapters 3, 5 and 8 compute, in plain Lean: elimination, closures, explanations, decisions. No program is walked here.
-/
import Derived.Test.YtabembjmeobhoaaGreatKBE
set_option linter.unusedVariables false
set_option linter.unusedSimpArgs false
open Bool renaming and_eq_true→ai,false_eq_true→ax,eq_false_or_eq_true→kF
open Classical renaming em→aa
open Int renaming toNat_natCast→bo,gcd→bJ,natCast_nonneg→iu,tdiv_eq_ediv_of_nonneg→jL
open List renaming getElem?_eq_getElem→ah,drop_eq_getElem_cons→aj,getElem_mem→ak,mem_cons→ay,getD_eq_getElem?_getD→az,map_cons→aQ,mem_append→aR,length_cons→a8,getElem?_append_left→bj,mem_cons_of_mem→bl,append_assoc→bm,not_mem_nil→bn,getElem?_eq_none→bq,range→bt,getElem?_append_right→bu,cons_append→bz,getElem?_eq_some_iff→bA,nil_append→bB,take_add_one→bC,mem_map→bD,append_nil→bF,length_take→bS,all_eq_true→cd,getD→cC,nodup_cons→cE,map_append→cP,mem_append_left→cY,nodup_append→df,map_nil→dt,length_map→dw,range'→dG,mem_of_find?_eq_some→eY,mem_range→fc,mem_flatMap→fF,length_range→fN,foldl_cons→gk,getElem?_cons_zero→gw,map_set→kp,foldl_append→ml,reverse_append→nf,reverse_cons→oU
open Nat renaming le_refl→aI,zero_le→bh,lt_or_ge→bU,lt_trichotomy→eK,sub_self→km,min_eq_left→nI
open Option renaming isSome_iff_exists→cH
namespace Go.Mod
open Go.Eng
set_option maxRecDepth 100000
def bO(l:List Nat):List (List D):=l.map fun n:Nat=>[.val (.int .i64 (n:Int))]
theorem R7(l:List Nat):(bO l).length=l.length:=by simp[bO]
theorem pF{l:List Nat}{i:Nat}(h:i<l.length):row (bO l) i=[.val (.int .i64 (l[i]:Int))]:=by simp[bO,row,cC,ah h]
theorem BC(l:List Nat):∀y∈bO l,y.length=1:=by
 intro y hy
 obtain⟨t,_,rfl⟩:=bD.1 hy
 rfl
theorem lY(a b:List Nat):bO a++bO b=bO (a++b):=by simp[bO]
theorem Se{l:List Nat}{i n:Nat}:(bO l).set i [.val (.int .i64 (n:Int))]=bO (l.set i n):=by simp[bO,kp]
attribute [go_sem] R7 pF
theorem nX{i n:Nat}(h:i<n):dG i (n-i)=i::dG (i+1) (n-(i+1)):=by
 obtain⟨k,rfl⟩:∃k,n=i+1+k:=⟨n-(i+1),by omega⟩
 have e1:i+1+k-i=k+1:=by omega
 have e2:i+1+k-(i+1)=k:=by omega
 rw[e1,e2,List.range'_succ]
theorem pf{i n:Nat}(h:n≤i):dG i (n-i)=[]:=by
 have e1:n-i=0:=by omega
 rw[e1];rfl
theorem QN(n:Int):(whole n).N=n:=rfl
theorem X5(n:Int):(whole n).D=1:=rfl
attribute [go_sem] QN X5
structure cz where
 jA:ib
 fI:List Int
 deriving DecidableEq
def cU(r:cz):List D:=[.dP (bG r.jA.aG),.val (.int .i64 r.jA.bound),.val (.bool r.jA.strict),.dP (bG r.fI)]
def dU(l:List cz):List (List D):=l.map cU
theorem SQ(l:List cz):(dU l).length=l.length:=by simp[dU]
theorem R3{l:List cz}{i:Nat}(h:i<l.length):row (dU l) i=cU l[i]:=by simp[dU,row,cC,ah h]
theorem xQ(a b:List cz):dU a++dU b=dU (a++b):=by simp[dU]
theorem tW:dU []=[]:=rfl
theorem vp(n:cz)(l:List cz):dU (n::l)=cU n::dU l:=rfl
attribute [go_sem] SQ R3 tW cU
def bR(r:cz)(v:Nat):Int:=r.jA.aG.getD v 0
def sX(n i:Nat):List Int:=(List.replicate n 0).set i 1
def bH(ls:List ib):List cz:=(bt ls.length).map fun i=>⟨ls.getD i mC,sX ls.length i⟩
def ug(a b:cz)(v:Nat):Int:=(bJ (bR a v) (-(bR b v)):Int)
def o0(a b:cz)(v:Nat):Int:=(bR a v).tdiv (ug a b v)
def o3(a b:cz)(v:Nat):Int:=(-(bR b v)).tdiv (ug a b v)
def ql(a b:cz)(v:Nat):List Int:=comb (o3 a b v) (o0 a b v) a.fI b.fI
def AF(a b:cz)(v:Nat):cz:=⟨(dL a.jA (o3 a b v) b.jA (o0 a b v)).1,ql a b v⟩
def tC(a b:cz)(v:Nat):Bool:=(dL a.jA (o3 a b v) b.jA (o0 a b v)).2&&(ql a b v).all fun n=>decide (n≤1000000)
def o6(a:cz)(v:Nat)(rows:List cz):List (cz×cz):=rows.filterMap fun b=>if 0<bR a v∧bR b v<0 then some (a,b) else none
def o7(all rows:List cz)(v:Nat):List (cz×cz):=rows.flatMap fun a=>o6 a v all
def mJ(v:Nat):List (cz×cz)→List cz→Option (List cz)
 | [],out=>some out
 | (a,b)::ps,out=>if tC a b v=true∧out.length<200 then mJ v ps (out++[AF a b v]) else none
def gU(rows:List cz)(v:Nat):Option (List cz):=mJ v (o7 rows rows v) (rows.filter fun r=>decide (bR r v=0))
def qN(v:Nat):Nat→List Int→List Rat→Rat→Option Rat
 | i,c::cs,x::xs,sum=>if i=v then qN v (i+1) cs xs sum else if(plus sum (-c) x).2 then qN v (i+1) cs xs (plus sum (-c) x).1 else none
 | _,_,_,sum=>some sum
def zx(x:Rat×Bool):Option Rat:=if x.2 then some x.1 else none
def mZ(l:ib)(v:Nat)(aE:List Rat):Option Rat:=
 match qN v 0 l.aG aE (whole l.bound) with
 | none=>none
 | some sum=>if(lg 1 (l.aG.getD v 0)).2 then zx (cq sum (lg 1 (l.aG.getD v 0)).1) else none
def lower(x:Rat):Option Rat→Bool
 | none=>true
 | some h=>cS x h
def upper(x:Rat):Option Rat→Bool
 | none=>true
 | some l=>cS l x
def oN(v:Nat)(aE:List Rat):List cz→Option Rat→Option Rat→Option (Option Rat×Option Rat)
 | [],lo,hi=>some (lo,hi)
 | r::rs,lo,hi=>if bR r v=0 then oN v aE rs lo hi else match mZ r.jA v aE with
   | none=>none
   | some b=>if 0<bR r v then oN v aE rs lo (if lower b hi then some b else hi) else oN v aE rs (if upper b lo then some b else lo) hi
def kI:Option Rat→Option Rat→Rat×Bool
 | some l,some h=>qP l h
 | none,some h=>c8 h (whole (-1))
 | some l,none=>c8 l (whole 1)
 | none,none=>(whole 0,true)
def valueOf(rows:List cz)(v:Nat)(aE:List Rat):Option Rat:=
 match oN v aE rows none none with
 | none=>none
 | some e=>zx (kI e.1 e.2)
def me:List (List cz)→Nat→List Rat→Option (List Rat)
 | [],_,aE=>some aE
 | rows::st,v,aE=>match valueOf rows v aE with
   | none=>none
   | some x=>me st (v+1) (aE.set v x)
def kL:List Int→List Rat→Rat→Option Rat
 | c::cs,x::xs,sum=>if(plus sum c x).2 then kL cs xs (plus sum c x).1 else none
 | _,_,sum=>some sum
def qi(aE:List Rat):Bool:=decide (aE.length=4)&&aE.all bV
def mh(l:ib)(aE:List Rat):Option Bool:=if dF l&&qi aE then(kL l.aG aE (whole 0)).map fun x=>below x l.bound l.strict else none
def kV(list:List ib)(aE:List Rat):Bool:=fG list&&(qi aE&&list.all fun l=>decide (mh l aE=some true))
def nR:List Rat:=[whole 0,whole 0,whole 0,whole 0]
structure Far where
 aE:List Rat
 times:List Int
 code:Int
def ie(list:List ib)(s0 s1 s2 s3 rows:List cz):Far:=
 match rows.find? fun r=>jJ r.jA with
 | some r=>if qU list r.fI then⟨[],r.fI,1⟩ else⟨[],[],2⟩
 | none=>match me [s0,s1,s2,s3] 0 nR with
   | none=>⟨[],[],2⟩
   | some aE=>if kV list aE then⟨aE,[],0⟩ else⟨[],[],2⟩
def bN(list:List ib):Far:=
 if fG list then match gU (bH list) 3 with
  | none=>⟨[],[],2⟩
  | some r2=>match gU r2 2 with
    | none=>⟨[],[],2⟩
    | some r1=>match gU r1 1 with
      | none=>⟨[],[],2⟩
      | some r0=>match gU r0 0 with
        | none=>⟨[],[],2⟩
        | some rows=>ie list r0 r1 r2 (bH list) rows
 else⟨[],[],3⟩
def aH(ae:List Term)(t:Term):Nat:=(bL ae t).toNat
def cl(class_:List Nat)(i:Nat):Nat:=class_.getD i 0
def fV(class_:List Nat)(a b:Nat):List Nat:=class_.map fun k=>if k=max (cl class_ a) (cl class_ b) then min (cl class_ a) (cl class_ b) else k
def Jd(ae:List Term)(class_:List Nat)(x y:Term):Bool:=decide (cl class_ (aH ae x)=cl class_ (aH ae y))
def lA(ae:List Term)(class_:List Nat):List Term→List Term→Bool
 | [],[]=>true
 | x::xs,y::ys=>Jd ae class_ x y&&lA ae class_ xs ys
 | _,_=>false
def alike(ae:List Term)(class_:List Nat)(a b:Nat):Bool:=
 decide (0<(ae.getD a aL).kids.length)&&(decide ((ae.getD a aL).name=(ae.getD b aL).name)&&lA ae class_ (ae.getD a aL).kids (ae.getD b aL).kids)
def mV(ae:List Term)(class_:List Nat)(early late:Nat):Bool:=decide (cl class_ early≠cl class_ late)&&alike ae class_ early late
def jx(from_ n:Nat):List (Nat×Nat):=(dG from_ (n-from_)).flatMap fun l=>(dG 0 l).map fun e=>(e,l)
def fv(ae:List Term)(class_:List Nat):Option (Nat×Nat):=(jx 0 ae.length).find? fun p=>mV ae class_ p.1 p.2
def iW(ae:List Term):Nat→List iy→List Nat→List Step→List Nat×List Step
 | _,[],class_,af=>(class_,af)
 | n,e::es,class_,af=>
   if cl class_ (aH ae e.A)=cl class_ (aH ae e.B) then iW ae (n+1) es class_ af
   else iW ae (n+1) es (fV class_ (aH ae e.A) (aH ae e.B)) (af++[⟨aH ae e.A,aH ae e.B,n⟩])
def kh(ae:List Term):Nat→List Nat→List Step→List Nat×List Step
 | 0,class_,af=>(class_,af)
 | f+1,class_,af=>match fv ae class_ with
   | none=>(class_,af)
   | some p=>kh ae f (fV class_ p.1 p.2) (af++[⟨p.1,p.2,-1⟩])
def given(ae:List Term)(eqs:List iy):List Nat×List Step:=iW ae 0 eqs (bt ae.length) []
def closed(ae:List Term)(eqs:List iy):List Nat×List Step:=kh ae (given ae eqs).1.sum (given ae eqs).1 (given ae eqs).2
def aV(n:Nat)(af:List Step)(k:Nat):List Nat:=(af.take k).foldl (fun c s=>fV c s.A.toNat s.B.toNat) (bt n)
structure Edge where
 step:Nat
 back:Bool
 deriving DecidableEq
def hJ(af:List Step)(k:Nat):Step:=af.getD k ⟨0,0,0⟩
def lO(n:Nat)(af:List Step):Nat→Nat→Nat→List Edge
 | 0,_,_=>[]
 | k+1,a,b=>
   let c:=aV n af k
   if cl c a=cl c b then lO n af k a b
   else if cl c a=cl c (hJ af k).A.toNat then lO n af k a (hJ af k).A.toNat++⟨k,false⟩::lO n af k (hJ af k).B.toNat b
   else lO n af k a (hJ af k).B.toNat++⟨k,true⟩::lO n af k (hJ af k).A.toNat b
def kH(ae:List Term)(af:List Step)(vR:Nat→Nat→Nat→l9)(e:Edge):l9:=
 let s:=hJ af e.step
 let w:l9:=if s.given<0 then .mk 5 0 (.mk (ae.getD s.A.toNat aL).name []) (((ae.getD s.A.toNat aL).kids.zip (ae.getD s.B.toNat aL).kids).map fun p=>vR e.step (aH ae p.1) (aH ae p.2)) else .mk 2 s.given aL []
 if e.back then .mk 3 0 aL [w] else w
def ox(one:Edge→l9):l9→List Edge→l9
 | w,[]=>w
 | w,e::es=>ox one (.mk 4 0 aL [w,one e]) es
def lf(ae:List Term)(af:List Step):Nat→Nat→Nat→Nat→l9
 | 0,_,_,_=>vO
 | f+1,n,a,b=>match lO ae.length af n a b with
   | []=>.mk 1 0 (ae.getD a aL) []
   | e::es=>ox (kH ae af (lf ae af f)) (kH ae af (lf ae af f) e) es
def lX(ae:List Term)(af:List Step)(a b:Term):l9:=lf ae af (af.length+1) af.length (aH ae a) (aH ae b)
def eU(nums:List Term)(out:List Nat)(e:iy):List Nat:=
 if bL nums e.A<0∨bL nums e.B<0 then out else out.map fun k=>if k=cl out (aH nums e.A) then cl out (aH nums e.B) else k
def j9(nums:List Term)(eqs:List iy):List Nat:=eqs.foldl (eU nums) (bt nums.length)
def linked(nums:List Term)(ab:List bp)(i k:Nat):Bool:=decide (cl (j9 nums (bc ab)) i=cl (j9 nums (bc ab)) k)
def eM(nums:List Term)(ab:List bp)(i k:Nat):Bool:=ab.any fun l=>!l.no&&decide (l.atom=(dz (nums.getD i aL) (nums.getD k aL)).atom)
def dD(from_ n:Nat):List (Nat×Nat):=(dG from_ (n-from_)).flatMap fun i=>(dG (i+1) (n-(i+1))).map fun k=>(i,k)
def b6(n:Nat)(p:Nat→Nat→Bool):Option (Nat×Nat):=(dD 0 n).find? fun q=>p q.1 q.2
def fS(au:List Term)(class_:List Nat)(a b:Term):Bool:=decide (cl class_ (aH au a)=cl class_ (aH au b))
def iZ(au:List Term)(class_:List Nat)(l:bp):Bool:=l.no&&(decide (l.atom.kind=1)&&fS au class_ l.atom.A l.atom.B)
def kf{α:Type}(p:α→Bool)(l:List α):Option Nat:=(bt l.length).find? fun i=>match l[i]? with|none=>false|some x=>p x
def iI(au nums:List Term)(class_:List Nat)(aE:List Rat)(t:Term):Rat:=if bL nums t<0 then whole (cl class_ (aH au t)) else aE.getD (aH nums t) (whole 0)
def iA(au nums:List Term)(class_:List Nat)(aE:List Rat)(t:Term):Row:=⟨t.name,t.kids.map (iI au nums class_ aE),iI au nums class_ aE t⟩
def putRow(rows:List Row)(r:Row):List Row:=
 let lo:=rows.takeWhile fun x=>decide (fb x r<0)
 let hi:=rows.dropWhile fun x=>decide (fb x r<0)
 match hi with
 | []=>lo++[r]
 | x::xs=>if fb x r=0 then rows else lo++r::x::xs
def gY(au nums:List Term)(class_:List Nat)(aE:List Rat):List Row:=au.foldl (fun rows t=>putRow rows (iA au nums class_ aE t)) []
def eS(s:dE)(m:Model)(ab:List bp):Bool:=e6 s m&&ab.all fun l=>decide (fW s m l=some true)
structure y6 where
 model:Model
 case:Case
 code:Int
def s7:Case:=.mk 0 0 vO [] aL aL []
def l8:Model:=⟨[]⟩
def rJ:y6:=⟨l8,s7,2⟩
def yd(w:l9)(r:y6):y6:=if r.code=1 then⟨l8,.mk 3 0 w [] aL aL [r.case],1⟩ else⟨r.model,s7,r.code⟩
def n8(run:List bp→y6)(a b:Term):List (List bp)→List Case→y6
 | [],out=>⟨l8,.mk 4 0 vO [] a b out,1⟩
 | l::ls,out=>if(run l).code=1 then n8 run a b ls (out++[(run l).case]) else⟨(run l).model,s7,(run l).code⟩
def hY(s:dE)(au nums:List Term):Nat→List bp→y6
 | 0,_=>rJ
 | f+1,ab=>
   let eqs:=bc ab
   let c:=closed au eqs
   let IA:=bN (dQ nums ab)
   if 12<eqs.length then rJ else
   match kf (iZ au c.1) ab with
   | some n=>⟨l8,.mk 1 n (lX au c.2 (ab.getD n Dq).atom.A (ab.getD n Dq).atom.B) [] aL aL [],1⟩
   | none=>
     if IA.code=1 then⟨l8,.mk 2 0 vO IA.times aL aL [],1⟩ else
     if IA.code≠0 then rJ else
     match b6 nums.length (fun i k=>!linked nums ab i k&&fS au c.1 (nums.getD i aL) (nums.getD k aL)) with
     | some (i,k)=>yd (lX au c.2 (nums.getD i aL) (nums.getD k aL)) (hY s au nums f (ab++[gJ (nums.getD i aL) (nums.getD k aL)]))
     | none=>match b6 nums.length (fun i k=>!linked nums ab i k&&(!eM nums ab i k&& !eM nums ab k i)) with
       | some (i,k)=>n8 (hY s au nums f) (nums.getD i aL) (nums.getD k aL) ((fJ (nums.getD i aL) (nums.getD k aL)).map fun l=>ab++[l]) []
       | none=>if eS s ⟨gY au nums c.1 IA.aE⟩ ab then⟨⟨gY au nums c.1 IA.aE⟩,s7,0⟩ else rJ
def dS(s:dE)(ab:List bp):y6:=if eZ s ab then hY s (aA ab) (numsOf s ab) 13 ab else⟨l8,s7,3⟩
theorem gL{c:List Nat}{i:Nat}(h:i<c.length):cl c i=c[i]:=by rw[cl,az,ah h];rfl
theorem yV{c:List Nat}{i:Nat}(h:i<c.length):cl c i∈c:=by rw[gL h];exact ak h
theorem Yj{c:List Nat}{i:Nat}(h:c.length≤i):cl c i=0:=by rw[cl,az,bq h];rfl
theorem fD(c:List Nat)(a b:Nat):(fV c a b).length=c.length:=by simp[fV]
theorem vu{c:List Nat}{f:Nat→Nat}{i:Nat}(h:i<c.length):cl (c.map f) i=f (cl c i):=by
 rw[gL (by simpa using h),gL h,List.getElem_map]
theorem xf{c:List Nat}{a b i:Nat}(h:i<c.length):cl (fV c a b) i=if cl c i=max (cl c a) (cl c b) then min (cl c a) (cl c b) else cl c i:=vu h
theorem BM{c:List Nat}{a b i k:Nat}(hi:i<c.length)(hk:k<c.length):cl (fV c a b) i=cl (fV c a b) k↔(cl c i=cl c k∨(cl c i=cl c a∧cl c k=cl c b)∨(cl c i=cl c b∧cl c k=cl c a)):=by
 rw[xf hi,xf hk]
 split<;>split<;>omega
theorem VN{f:Nat→Nat}(hf:∀x,f x≤x):∀l:List Nat,(l.map f).sum≤l.sum
 | []=>aI _
 | x::l=>by
   have:=VN hf l
   have:=hf x
   simp only[aQ,List.sum_cons]
   omega
theorem TH{f:Nat→Nat}(hf:∀x,f x≤x):∀{l:List Nat}{x:Nat},x∈l→f x<x→(l.map f).sum<l.sum
 | y::l,x,hx,h=>by
   simp only[aQ,List.sum_cons]
   have h1:=VN hf l
   have h2:=hf y
   rcases ay.1 hx with e|e
   ·subst e;omega
   ·have:=TH hf e h
    omega
theorem Jk{c:List Nat}{a b:Nat}(ha:a<c.length)(hb:b<c.length)(h:cl c a≠cl c b):(fV c a b).sum<c.sum:=by
 refine TH (x:=max (cl c a) (cl c b)) (fun x=>?_) ?_ ?_
 ·split<;>omega
 ·rcases Nat.le_total (cl c a) (cl c b) with h1|h1
  ·rw[Nat.max_eq_right h1];exact yV hb
  ·rw[Nat.max_eq_left h1];exact yV ha
 ·rw[if_pos rfl];omega
theorem yk{s n:Nat}{p:Nat×Nat}:p∈jx s n↔p.1<p.2∧s≤p.2∧p.2<n:=by
 obtain⟨e,l⟩:=p
 simp only[jx,fF,bD,List.mem_range'_1,Prod.mk.injEq]
 constructor
 ·rintro⟨l',h1,e',h2,rfl,rfl⟩;omega
 ·rintro⟨h1,h2,h3⟩
  exact⟨l,by omega,e,by omega,rfl,rfl⟩
theorem FU{l n:Nat}(h:l<n):jx l n=(dG 0 (l-0)).map (fun e=>(e,l))++jx (l+1) n:=by
 unfold jx
 rw[nX h]
 rfl
theorem yu{l n:Nat}(h:n≤l):jx l n=[]:=by
 unfold jx
 rw[pf h]
 rfl
theorem pP{ae:List Term}{c:List Nat}{p:Nat×Nat}(h:fv ae c=some p):p.1<p.2∧p.2<ae.length∧cl c p.1≠cl c p.2∧alike ae c p.1 p.2=true:=by
 have h1:=List.find?_some h
 have h2:=yk.1 (eY h)
 simp only[mV,ai,decide_eq_true_eq] at h1
 exact⟨h2.1,h2.2.2,h1.1,h1.2⟩
theorem U7{x:Nat}:∀{l:List Nat},x∈l→x≤l.sum
 | y::l,h=>by
   simp only[List.sum_cons]
   rcases ay.1 h with e|e
   ·omega
   ·have:=U7 e;omega
theorem uK{ae:List Term}{f:Nat}{c:List Nat}{af:List Step}(h:fv ae c=none):kh ae f c af=(c,af):=by
 cases f with
 | zero=>rfl
 | succ f=>simp only[kh,h]
theorem vz{ae:List Term}{f:Nat}{c:List Nat}{af:List Step}{p:Nat×Nat}(hs:c.sum≤f)(hc:c.length=ae.length)(h:fv ae c=some p) :
 ∃f',f=f'+1∧kh ae f c af=kh ae f' (fV c p.1 p.2) (af++[⟨p.1,p.2,-1⟩])∧(fV c p.1 p.2).sum≤f':=by
 obtain⟨h1,h2,h3,h4⟩:=pP h
 have hd:=Jk (c:=c) (a:=p.1) (b:=p.2) (by omega) (by omega) h3
 obtain⟨f',rfl⟩:∃f',f=f'+1:=⟨f-1,by omega⟩
 exact⟨f',rfl,by simp only[kh,h],by omega⟩
structure J4(ae:List Term)(eqs:List iy)(c:List Nat)(s:Step):Prop where
 a0:0≤s.A
 a1:s.A.toNat<ae.length
 b0:0≤s.B
 b1:s.B.toNat<ae.length
 ne:cl c s.A.toNat≠cl c s.B.toNat
 XW:(s.given = -1∧alike ae c s.A.toNat s.B.toNat=true)∨(∃n:Nat,s.given=n∧∃e,eqs[n]?=some e∧s.A=aH ae e.A∧s.B=aH ae e.B)
def lq(ae:List Term)(eqs:List iy)(af:List Step):Prop:=∀k s,af[k]?=some s→J4 ae eqs (aV ae.length af k) s
theorem tu{n k:Nat}{af more:List Step}(h:k≤af.length):aV n (af++more) k=aV n af k:=by
 rw[aV,aV,List.take_append_of_le_length h]
theorem iD(n:Nat)(af:List Step)(k:Nat):(aV n af k).length=n:=by
 unfold aV
 have:∀(l:List Step)(c:List Nat),(l.foldl (fun c s=>fV c s.A.toNat s.B.toNat) c).length=c.length:=by
  intro l
  induction l with
  | nil=>intro c;rfl
  | cons s l ih=>intro c;rw[gk,ih,fD]
 rw[this,fN]
theorem sg{n k:Nat}{af:List Step}{s:Step}(h:af[k]?=some s):aV n af (k+1)=fV (aV n af k) s.A.toNat s.B.toNat:=by
 obtain⟨hk,rfl⟩:=bA.1 h
 rw[aV,bC,ah hk,ml]
 rfl
theorem J6{ae:List Term}{eqs:List iy}{af:List Step}{s:Step}(h:lq ae eqs af)(hs:J4 ae eqs (aV ae.length af af.length) s):lq ae eqs (af++[s]):=by
 intro k t ht
 rcases eK k af.length with h1|h1|h1
 ·rw[bj h1] at ht
  rw[tu (by omega)]
  exact h k t ht
 ·subst h1
  rw[bu (aI _)] at ht
  simp only[km,gw,Option.some.injEq] at ht
  rw[tu (aI _),←ht]
  exact hs
 ·rw[bq (by simp;omega)] at ht
  cases ht
theorem FR{n:Nat}{af:List Step}{s:Step}:aV n (af++[s]) (af++[s]).length=fV (aV n af af.length) s.A.toNat s.B.toNat:=by
 rw[List.length_append,List.length_singleton,sg (s:=s) (by simp),tu (aI _)]
def Kept(ae:List Term)(eqs:List iy)(x:List Nat×List Step):Prop:=lq ae eqs x.2∧x.1=aV ae.length x.2 x.2.length
theorem Mr{ae:List Term}{eqs:List iy}{x:List Nat×List Step}(h:Kept ae eqs x):x.1.length=ae.length:=by rw[h.2,iD]
theorem Jp{ae:List Term}{eqs:List iy}{x:List Nat×List Step}{s:Step}(h:Kept ae eqs x)(hs:J4 ae eqs x.1 s):Kept ae eqs (fV x.1 s.A.toNat s.B.toNat,x.2++[s]):=
 ⟨J6 h.1 (h.2▸hs),by rw[FR,←h.2]⟩
theorem vj{ae:List Term}{all:List iy}(ki:∀e∈all,e.A∈ae∧e.B∈ae):∀(eqs:List iy)(n:Nat)(c:List Nat)(af:List Step),all.drop n=eqs→Kept ae all (c,af)→Kept ae all (iW ae n eqs c af)
 | [],_,_,_,_,h=>h
 | e::es,n,c,af,hd,h=>by
   have hn:all[n]?=some e:=by
    have:=congrArg (·[0]?) hd
    simpa using this
   have hd2:all.drop (n+1)=es:=by
    have:=congrArg List.tail hd
    simpa[List.tail_drop] using this
   obtain⟨hA,hB⟩:=ki e (List.mem_of_getElem? hn)
   rw[iW]
   split
   ·exact vj ki es (n+1) c af hd2 h
   ·rename_i jv
    exact vj ki es (n+1) _ _ hd2 (Jp (s:=⟨aH ae e.A,aH ae e.B,n⟩) h ⟨iu _,by rw[bo];exact nP hA,iu _,by rw[bo];exact nP hB,by simpa using jv,.inr ⟨n,rfl,e,hn,rfl,rfl⟩⟩)
theorem Bw{ae:List Term}{all:List iy}:∀(f:Nat)(c:List Nat)(af:List Step),Kept ae all (c,af)→Kept ae all (kh ae f c af)
 | 0,_,_,h=>h
 | f+1,c,af,h=>by
   rw[kh]
   split
   ·exact h
   ·rename_i p hp
    obtain⟨h1,h2,h3,h4⟩:=pP hp
    exact Bw f _ _ (Jp (s:=⟨p.1,p.2,-1⟩) h ⟨iu _,by simp;omega,iu _,by simpa using h2,by simpa using h3,.inl ⟨rfl,by simpa using h4⟩⟩)
theorem Pq{ae:List Term}{eqs:List iy}(ki:∀e∈eqs,e.A∈ae∧e.B∈ae):Kept ae eqs (given ae eqs):=
 vj ki eqs 0 _ _ rfl ⟨fun k s h=>by simp at h,rfl⟩
theorem mu{ae:List Term}{eqs:List iy}(ki:∀e∈eqs,e.A∈ae∧e.B∈ae):Kept ae eqs (closed ae eqs):=Bw _ _ _ (Pq ki)
theorem vh{ae:List Term}{eqs:List iy}{x:List Nat×List Step}(h:Kept ae eqs x):∀k,k≤x.2.length→(aV ae.length x.2 k).sum+k≤(bt ae.length).sum:=by
 intro k
 induction k with
 | zero=>intro _;exact Nat.le_of_eq (by simp[aV])
 | succ k ih=>
   intro hk
   have hs:x.2[k]?=some x.2[k]:=ah (by omega)
   have h1:=ih (by omega)
   have h2:=h.1 k _ hs
   have h3:=Jk (c:=aV ae.length x.2 k) (by rw[iD];exact h2.a1) (by rw[iD];exact h2.b1) h2.ne
   rw[sg hs]
   omega
def vA(af:List Step)(k:Nat):Nat:=(hJ af k).A.toNat
def vB(af:List Step)(k:Nat):Nat:=(hJ af k).B.toNat
def gC(af:List Step)(e:Edge):Nat:=if e.back then vB af e.step else vA af e.step
def ij(af:List Step)(e:Edge):Nat:=if e.back then vA af e.step else vB af e.step
def pJ(af:List Step):Nat→List Edge→Nat→Prop
 | a,[],b=>a=b
 | a,e::es,b=>gC af e=a∧pJ af (ij af e) es b
def oI(k:Nat)(es:List Edge):Prop:=∀e∈es,e.step<k
def gO(af:List Step)(a:Nat)(es:List Edge):List Nat:=a::es.map (ij af)
theorem vX{af:List Step}:∀{p q:List Edge}{a b:Nat},pJ af a (p++q) b↔∃m,pJ af a p m∧pJ af m q b
 | [],q,a,b=>by simp[pJ]
 | e::p,q,a,b=>by
   simp only[bz,pJ,vX (p:=p)]
   constructor
   ·rintro⟨h1,m,h2,h3⟩;exact⟨m,⟨h1,h2⟩,h3⟩
   ·rintro⟨m,⟨h1,h2⟩,h3⟩;exact⟨h1,m,h2,h3⟩
theorem Gh{af:List Step}:∀{p:List Edge}{a b:Nat},pJ af a p b→b∈gO af a p
 | [],a,b,h=>by simp[pJ] at h;simp[gO,h]
 | e::p,a,b,h=>by
   have:=Gh h.2
   simp only[gO,aQ,ay] at this⊢
   exact .inr this
section
variable{ae:List Term}{eqs:List iy}{af:List Step}(eP:lq ae eqs af)
include eP
theorem ot{k:Nat}(h:k<af.length):J4 ae eqs (aV ae.length af k) (hJ af k):=by
 have e:=ah h
 have:=eP k _ e
 rw[hJ,az,e]
 exact this
theorem Fw{k:Nat}(h:k<af.length):vA af k<ae.length:=(ot eP h).a1
theorem FH{k:Nat}(h:k<af.length):vB af k<ae.length:=(ot eP h).b1
omit eP in
theorem QY{k:Nat}(h:k<af.length):aV ae.length af (k+1)=fV (aV ae.length af k) (vA af k) (vB af k):=by
 rw[sg (ah h),vA,vB,hJ,az,ah h]
 rfl
omit eP in
theorem OG{k i j:Nat}(h:k<af.length)(hi:i<ae.length)(hj:j<ae.length):cl (aV ae.length af (k+1)) i=cl (aV ae.length af (k+1)) j ↔
 (cl (aV ae.length af k) i=cl (aV ae.length af k) j∨(cl (aV ae.length af k) i=cl (aV ae.length af k) (vA af k)∧cl (aV ae.length af k) j=cl (aV ae.length af k) (vB af k))∨(cl (aV ae.length af k) i=cl (aV ae.length af k) (vB af k)∧cl (aV ae.length af k) j=cl (aV ae.length af k) (vA af k))):=by
 rw[QY h]
 exact BM (by rw[iD];exact hi) (by rw[iD];exact hj)
theorem Ib:∀{k:Nat},k≤af.length→∀{j:Nat},j<k→cl (aV ae.length af k) (vA af j)=cl (aV ae.length af k) (vB af j)
 | 0,_,j,h=>by omega
 | k+1,hk,j,h=>by
   rw[OG (by omega) (Fw eP (by omega)) (FH eP (by omega))]
   rcases bU j k with h1|h1
   ·exact .inl (Ib (by omega) h1)
   ·obtain rfl:j=k:=by omega
    exact .inr (.inl ⟨rfl,rfl⟩)
theorem xO{e:Edge}(h:e.step<af.length):ij af e<ae.length:=by
 unfold ij
 split
 ·exact Fw eP h
 ·exact FH eP h
theorem BI{k:Nat}(hk:k≤af.length){e:Edge}(h:e.step<k):cl (aV ae.length af k) (gC af e)=cl (aV ae.length af k) (ij af e):=by
 have:=Ib eP hk h
 unfold gC ij
 cases e.back
 ·simpa using this
 ·simpa using this.symm
theorem xP{k:Nat}(hk:k≤af.length):∀{es:List Edge}{a b:Nat},oI k es→pJ af a es b→cl (aV ae.length af k) a=cl (aV ae.length af k) b
 | [],a,b,_,h=>by simp only[pJ] at h;rw[h]
 | e::es,a,b,hw,h=>by
   rw[←h.1,BI eP hk (hw e (by simp))]
   exact xP hk (fun x hx=>hw x (bl _ hx)) h.2
theorem JD{k:Nat}(hk:k≤af.length):∀{es:List Edge}{a b:Nat},oI k es→pJ af a es b→a<ae.length→b<ae.length
 | [],a,b,_,h,ha=>by simp only[pJ] at h;omega
 | e::es,a,b,hw,h,ha=>JD hk (fun x hx=>hw x (bl _ hx)) h.2 (xO eP (by have:=hw e (by simp);omega))
theorem o8{k:Nat}(hk:k≤af.length):∀{es:List Edge}{a b:Nat},oI k es→pJ af a es b→∀v∈gO af a es,cl (aV ae.length af k) v=cl (aV ae.length af k) a
 | [],a,b,_,h,v,hv=>by simp[gO] at hv;rw[hv]
 | e::es,a,b,hw,h,v,hv=>by
   simp only[gO,aQ,ay] at hv
   rcases hv with e1|hv
   ·rw[e1]
   ·rw[o8 hk (fun x hx=>hw x (bl _ hx)) h.2 v (by simpa[gO] using hv),←h.1]
    exact(BI eP hk (hw e (by simp))).symm
theorem rO:∀{k:Nat},k≤af.length→∀{es:List Edge}{a b:Nat},a<ae.length→oI k es→pJ af a es b→(gO af a es).Nodup→es=lO ae.length af k a b
 | 0,_,es,a,b,_,hw,h,_=>by
   cases es with
   | nil=>rfl
   | cons e es=>exact absurd (hw e (by simp)) (by omega)
 | k+1,hk,es,a,b,ha,hw,h,hn=>by
   have hk':k≤af.length:=by omega
   have hb:=JD eP hk hw h ha
   rcases aa (oI k es) with ki|ki
   ·have hs:=xP eP hk' ki h
    rw[lO,if_pos hs]
    exact rO hk' ha ki h hn
   ·-- the first edge of the last step
    have hsplit:∃p e q,es=p++e::q∧oI k p∧e.step=k:=by
     clear h hn hb
     induction es with
     | nil=>exact absurd (fun e he=>by simp at he) ki
     | cons e es ih=>
       have he:=hw e (by simp)
       rcases bU e.step k with h1|h1
       ·obtain⟨p,x,q,e1,e2,e3⟩:=ih (fun x hx=>hw x (bl _ hx)) (fun hin2=>ki fun x hx=>by
         rcases ay.1 hx with e4|e4
         ·rw[e4];exact h1
         ·exact hin2 x e4)
        refine⟨e::p,x,q,by rw[e1];rfl,fun y hy=>?_,e3⟩
        rcases ay.1 hy with e4|e4
        ·rw[e4];exact h1
        ·exact e2 y e4
       ·exact⟨[],e,es,rfl,fun x hx=>by simp at hx,by omega⟩
    obtain⟨p,e,q,rfl,hp,hek⟩:=hsplit
    obtain⟨m,w1,w2⟩:=vX.1 h
    obtain⟨w3,w4⟩:=w2
    subst w3
    have hve:gO af a (p++e::q)=gO af a p++gO af (ij af e) q:=by simp[gO]
    rw[hve] at hn
    obtain⟨n1,n2,n3⟩:=df.1 hn
    have hq:oI k q:=by
     intro x hx
     have hx1:=hw x (by simp[hx])
     rcases bU x.step k with h1|h1
     ·exact h1
     ·exfalso
      have hxk:x.step=k:=by omega
      obtain⟨q1,q2,rfl⟩:=List.append_of_mem hx
      obtain⟨m2,u1,u2⟩:=vX.1 w4
      obtain⟨u3,u4⟩:=u2
      have hs1:gC af e∈gO af a p:=Gh w1
      have jv:ij af x≠ij af e:=by
       intro he
       have:(ij af e::(q1.map (ij af)++ij af x::q2.map (ij af))).Nodup:=by simpa[gO] using n2
       have:=(cE.1 this).1
       exact this (by simp[he])
      have hne2:ij af x≠gC af e:=by
       intro he
       exact n3 _ hs1 _ (by simp[gO]:ij af x∈gO af (ij af e) (q1++x::q2)) he.symm
      unfold ij at jv hne2
      unfold gC at hne2
      rw[hxk,hek] at jv hne2
      cases h5:x.back<;>cases h6:e.back<;>simp[h5,h6] at jv hne2
    have mr:gC af e<ae.length:=JD eP hk' hp w1 ha
    have hlt2:ij af e<ae.length:=xO eP (by omega)
    have hok2:=(ot eP (k:=k) (by omega)).ne
    have i1:=rO hk' ha hp w1 n1
    have i2:=rO hk' hlt2 hq w4 n2
    have s1:=xP eP hk' hp w1
    have s2:=xP eP hk' hq w4
    rw[lO]
    unfold gC at i1 s1
    unfold ij at i2 s2
    rw[hek] at i1 i2 s1 s2
    obtain⟨st,bk⟩:=e
    simp only at hek
    subst hek
    cases bk
    ·simp only[ax,if_false,vA,vB] at i1 i2 s1 s2
     rw[if_neg (by rw[s1,←s2];exact hok2),if_pos s1,←i1,←i2]
    ·simp only[if_true,vA,vB] at i1 i2 s1 s2
     rw[if_neg (by rw[s1,←s2];exact fun h=>hok2 h.symm),if_neg (by rw[s1];exact fun h=>hok2 h.symm),←i1,←i2]
theorem rE:∀{k:Nat},k≤af.length→∀{a b:Nat},a<ae.length→b<ae.length→cl (aV ae.length af k) a=cl (aV ae.length af k) b →
 oI k (lO ae.length af k a b)∧pJ af a (lO ae.length af k a b) b∧(gO af a (lO ae.length af k a b)).Nodup
 | 0,_,a,b,ha,hb,h=>by
   have e:∀i,i<ae.length→cl (aV ae.length af 0) i=i:=fun i hi=>by
    rw[gL (by rw[iD];exact hi)]
    simp[aV]
   rw[e a ha,e b hb] at h
   subst h
   exact⟨fun x hx=>by simp[lO] at hx,rfl,by simp[lO,gO]⟩
 | k+1,hk,a,b,ha,hb,h=>by
   have hk':k≤af.length:=by omega
   have up:∀{es:List Edge},oI k es→oI (k+1) es:=fun hw e he=>Nat.lt_succ_of_lt (hw e he)
   rw[OG (by omega) ha hb] at h
   have hA:=Fw eP (k:=k) (by omega)
   have hB:=FH eP (k:=k) (by omega)
   have jv:=(ot eP (k:=k) (by omega)).ne
   rw[lO]
   rcases aa (cl (aV ae.length af k) a=cl (aV ae.length af k) b) with h1|h1
   ·rw[if_pos h1]
    obtain⟨i1,i2,i3⟩:=rE hk' ha hb h1
    exact⟨up i1,i2,i3⟩
   ·rw[if_neg h1]
    rcases h with h|⟨h,h'⟩|⟨h,h'⟩
    ·exact(h1 h).elim
    ·rw[if_pos (show _=cl _ (hJ af k).A.toNat from h)]
     obtain⟨i1,i2,i3⟩:=rE hk' ha hA h
     obtain⟨j1,j2,j3⟩:=rE hk' hB hb h'.symm
     refine⟨?_,vX.2 ⟨_,i2,rfl,j2⟩,?_⟩
     ·intro x hx
      rcases aR.1 hx with e|e
      ·exact up i1 x e
      ·rcases ay.1 e with e|e
       ·rw[e];exact Nat.lt_succ_self k
       ·exact up j1 x e
     ·have hve:gO af a (lO ae.length af k a (vA af k)++⟨k,false⟩::lO ae.length af k (vB af k) b)=gO af a (lO ae.length af k a (vA af k))++gO af (vB af k) (lO ae.length af k (vB af k) b):=by simp[gO,ij]
      refine hve▸df.2 ⟨i3,j3,fun x hx y hy e=>?_⟩
      have s1:=o8 eP hk' i1 i2 x hx
      have s2:=o8 eP hk' j1 j2 y hy
      rw[←e,s1] at s2
      exact jv (h.symm.trans s2)
    ·have h2:¬cl (aV ae.length af k) a=cl (aV ae.length af k) (hJ af k).A.toNat:=fun h3=>jv (h3.symm.trans h)
     rw[if_neg h2]
     obtain⟨i1,i2,i3⟩:=rE hk' ha hB h
     obtain⟨j1,j2,j3⟩:=rE hk' hA hb h'.symm
     refine⟨?_,vX.2 ⟨_,i2,rfl,j2⟩,?_⟩
     ·intro x hx
      rcases aR.1 hx with e|e
      ·exact up i1 x e
      ·rcases ay.1 e with e|e
       ·rw[e];exact Nat.lt_succ_self k
       ·exact up j1 x e
     ·have hve:gO af a (lO ae.length af k a (vB af k)++⟨k,true⟩::lO ae.length af k (vA af k) b)=gO af a (lO ae.length af k a (vB af k))++gO af (vA af k) (lO ae.length af k (vA af k) b):=by simp[gO,ij]
      refine hve▸df.2 ⟨i3,j3,fun x hx y hy e=>?_⟩
      have s1:=o8 eP hk' i1 i2 x hx
      have s2:=o8 eP hk' j1 j2 y hy
      rw[←e,s1] at s2
      exact h2 s2
end
def iP(cf:List (Nat×Edge)):List Nat:=cf.map Prod.fst
structure YZ(N:Nat)(af:List Step)(n from_:Nat)(cf:List (Nat×Edge)):Prop where
 head:(iP cf)[0]?=some from_
 Wc:(iP cf).Nodup
 lt:∀v∈iP cf,v<N
 by_:∀(j:Nat)(v:Nat)(e:Edge),cf[j]?=some (v,e)→0<j→e.step<n∧ij af e=v∧∃i,i<j∧(iP cf)[i]?=some (gC af e)
def Seen(af:List Step)(n:Nat)(cf:List (Nat×Edge))(v:Nat):Prop:=∀k,k<n→(vA af k=v→vB af k∈iP cf)∧(vB af k=v→vA af k∈iP cf)
def uM(af:List Step)(n:Nat)(cf:List (Nat×Edge))(i:Nat):Prop:=∀j v,j<i→(iP cf)[j]?=some v→Seen af n cf v
theorem j8{N:Nat}:∀{l:List Nat},l.Nodup→(∀v∈l,v<N)→l.length≤N:=by
 intro l h1 h2
 have:=(List.nodup_range (n:=N))
 have hs:l.length≤(bt N).length:=List.Nodup.length_le_of_subset h1 fun v hv=>fc.2 (h2 v hv)
 simpa using hs
theorem um(cf:List (Nat×Edge)):(iP cf).length=cf.length:=by simp[iP]
theorem jI(a b:List (Nat×Edge)):iP (a++b)=iP a++iP b:=by simp[iP]
theorem QF{N:Nat}{af:List Step}{n f:Nat}{cf:List (Nat×Edge)}(h:YZ N af n f cf):cf.length≤N:=by
 rw[←um]
 exact j8 h.Wc h.lt
theorem Sh{N:Nat}{af:List Step}{n f:Nat}(hf:f<N)(e:Edge):YZ N af n f [(f,e)]:=
 ⟨rfl,by simp[iP],fun v hv=>by simp[iP] at hv;omega,fun j v e h hj=>by
  cases j with
  | zero=>omega
  | succ j=>simp at h⟩
theorem QE{N:Nat}{af:List Step}{n f:Nat}{cf:List (Nat×Edge)}(h:YZ N af n f cf){e:Edge}{i v:Nat}(he:e.step<n)(hi:(iP cf)[i]?=some v)(hs:gC af e=v)(hn:ij af e∉iP cf)(mr:ij af e<N) :
 YZ N af n f (cf++[(ij af e,e)]):=by
 have hl:=um cf
 have hi2:i<cf.length:=by rw[←hl];exact(bA.1 hi).1
 refine⟨?_,?_,?_,?_⟩
 ·rw[jI,bj (by omega)];exact h.head
 ·rw[jI]
  refine df.2 ⟨h.Wc,by simp[iP],fun x hx y hy e1=>?_⟩
  simp only[iP,aQ,dt,ay,bn,or_false] at hy
  rw[e1,hy] at hx
  exact hn hx
 ·intro x hx
  rw[jI] at hx
  rcases aR.1 hx with hx|hx
  ·exact h.lt x hx
  ·simp only[iP,aQ,dt,ay,bn,or_false] at hx
   omega
 ·intro j w x hx hj
  rcases eK j cf.length with h1|h1|h1
  ·rw[bj h1] at hx
   obtain⟨a1,a2,k,a3,a4⟩:=h.by_ j w x hx hj
   exact⟨a1,a2,k,a3,by rw[jI,bj (by omega)];exact a4⟩
  ·subst h1
   rw[bu (aI _)] at hx
   simp only[km,gw,Option.some.injEq,Prod.mk.injEq] at hx
   obtain⟨rfl,rfl⟩:=hx
   exact⟨he,rfl,i,hi2,by rw[jI,bj (by omega),hi,hs]⟩
  ·rw[bq (by simp;omega)] at hx
   cases hx
theorem H9{af:List Step}{n:Nat}{a b:List (Nat×Edge)}{v:Nat}(h:Seen af n a v):Seen af n (a++b) v:=fun k hk=>by
 rw[jI]
 exact⟨fun e=>cY _ ((h k hk).1 e),fun e=>cY _ ((h k hk).2 e)⟩
theorem zX{af:List Step}{n:Nat}{a b:List (Nat×Edge)}{i:Nat}(hi:i≤a.length)(h:uM af n a i):uM af n (a++b) i:=fun j v hj hv=>by
 rw[jI,bj (by rw[um];omega)] at hv
 exact H9 (h j v hj hv)
theorem JI{af:List Step}{n:Nat}{cf:List (Nat×Edge)}{i v:Nat}(h:uM af n cf i)(hv:(iP cf)[i]?=some v)(hs:Seen af n cf v):uM af n cf (i+1):=fun j w hj hw=>by
 rcases bU j i with h1|h1
 ·exact h j w h1 hw
 ·obtain rfl:j=i:=by omega
  rw[hv] at hw
  obtain rfl:=Option.some.inj hw
  exact hs
theorem AU{af:List Step}{n:Nat}{cf:List (Nat×Edge)}(h:uM af n cf cf.length):∀{es:List Edge}{a b:Nat},oI n es→pJ af a es b→a∈iP cf→b∈iP cf
 | [],a,b,_,hw,ha=>by simp only[pJ] at hw;rw[←hw];exact ha
 | e::es,a,b,hi,hw,ha=>by
   obtain⟨j,hj,hj2⟩:=List.mem_iff_getElem.1 ha
   have hs:=h j a (by rw[←um];exact hj) (by rw[ah hj,hj2])
   have he:=hi e (by simp)
   refine AU h (fun x hx=>hi x (bl _ hx)) hw.2 ?_
   have h1:=hw.1
   unfold gC at h1
   unfold ij
   cases hb:e.back
   ·rw[hb] at h1
    simp only[ax,if_false] at h1⊢
    exact(hs e.step he).1 h1
   ·rw[hb] at h1
    simp only[if_true] at h1⊢
    exact(hs e.step he).2 h1
structure Vf(af:List Step)(n to:Nat)(cf:List (Nat×Edge))(j t:Nat)(out:List Edge):Prop where
 at_:(iP cf)[j]?=some t
 in_:oI n out.reverse
 walk:pJ af t out.reverse to
 Wc:(gO af t out.reverse).Nodup
 IA:∀w∈out.reverse.map (ij af),∃i,j<i∧(iP cf)[i]?=some w
theorem NW{af:List Step}{n to:Nat}{cf:List (Nat×Edge)}{j:Nat}(h:(iP cf)[j]?=some to):Vf af n to cf j to []:=
 ⟨h,fun e he=>by simp at he,rfl,by simp[gO],fun w hw=>by simp at hw⟩
theorem Vj{l:List Nat}(h:l.Nodup){i j v:Nat}(hi:l[i]?=some v)(hj:l[j]?=some v):i=j:=by
 obtain⟨h1,h2⟩:=bA.1 hi
 obtain⟨h3,h4⟩:=bA.1 hj
 exact(List.getElem_inj h).1 (h2.trans h4.symm)
theorem Sl{N:Nat}{af:List Step}{n f to:Nat}{cf:List (Nat×Edge)}{j t:Nat}{out:List Edge}{e:Edge}(hm:YZ N af n f cf)(h:Vf af n to cf j t out)(he:cf[j]?=some (t,e))(hj:0<j) :
 ∃i,i<j∧Vf af n to cf i (gC af e) (out++[e]):=by
 obtain⟨h1,h2,i,h3,h4⟩:=hm.by_ j t e he hj
 have IA:∀w∈(out++[e]).reverse.map (ij af),∃k,i<k∧(iP cf)[k]?=some w:=by
  intro w hw
  simp only[nf,oU,List.reverse_nil,bB,bz,aQ,ay] at hw
  rcases hw with e1|hw
  ·exact⟨j,h3,by rw[e1,h2];exact h.at_⟩
  ·obtain⟨k,k1,k2⟩:=h.IA w hw
   exact⟨k,by omega,k2⟩
 refine⟨i,h3,h4,?_,?_,?_,IA⟩
 ·intro x hx
  simp only[nf,oU,List.reverse_nil,bB,bz,ay] at hx
  rcases hx with e1|hx
  ·rw[e1];exact h1
  ·exact h.in_ x hx
 ·simp only[nf,oU,List.reverse_nil,bB,bz,pJ,true_and]
  rw[h2]
  exact h.walk
 ·refine cE.2 ⟨fun hmem=>?_,?_⟩
  ·obtain⟨k,k1,k2⟩:=IA _ hmem
   have:=Vj hm.Wc h4 k2
   omega
  ·have:=h.Wc
   simp only[nf,oU,List.reverse_nil,bB,bz,aQ]
   rw[h2]
   exact this
theorem VG{ae:List Term}{eqs:List iy}{af:List Step}{n f to:Nat}{cf:List (Nat×Edge)}{j:Nat}{out:List Edge}(eP:lq ae eqs af)(hn:n≤af.length)(hf:f<ae.length)(h:Vf af n to cf j f out):out.reverse=lO ae.length af n f to:=
 rO eP hn hf h.in_ h.walk h.Wc
theorem mM{α:Type}{l:List α}{i:Nat}{d:α}(h:i<l.length):l.getD i d∈l:=by
 rw[az,ah h]
 exact ak h
theorem getD_at{α:Type}{l:List α}{i:Nat}{d:α}(h:i<l.length):l.getD i d=l[i]:=by
 rw[az,ah h]
 rfl
structure Ha(n:Nat)(r:cz):Prop where
 jA:dF r.jA=true
 len:r.fI.length=n
 bd:∀u∈r.fI,0≤u∧u≤1000000
def wK(n:Nat)(rows:List cz):Prop:=rows.length≤200∧∀r∈rows,Ha n r
theorem Ha.RU{n:Nat}{r:cz}(h:Ha n r)(v:Nat):-1000000≤bR r v∧bR r v≤1000000:=by
 obtain⟨h1,h2,_⟩:=gq.1 h.jA
 unfold bR
 rcases bU v r.jA.aG.length with h3|h3
 ·exact h2 _ (mM h3)
 ·rw[az,bq h3]
  exact⟨by decide,by decide⟩
theorem RL(n i:Nat):(sX n i).length=n:=by simp[sX]
theorem Ta{n i:Nat}:∀u∈sX n i,0≤u∧u≤1000000:=by
 intro u hu
 rcases List.mem_or_eq_of_mem_set hu with h|h
 ·rw[(List.mem_replicate.1 h).2];omega
 ·rw[h];omega
theorem Kx(ls:List ib):(bH ls).length=ls.length:=by simp[bH]
theorem De{ls:List ib}(h:fG ls=true):wK ls.length (bH ls):=by
 simp only[fG,ai,decide_eq_true_eq,cd] at h
 refine⟨by rw[Kx];omega,fun r hr=>?_⟩
 simp only[bH,bD,fc] at hr
 obtain⟨i,hi,rfl⟩:=hr
 exact⟨h.2 _ (mM hi),RL _ _,Ta⟩
theorem D3{n:Nat}{a b:cz}{v:Nat}(ha:Ha n a)(hb:Ha n b)(h1:0<bR a v)(h2:bR b v<0) :
 (1≤ug a b v∧ug a b v≤1000000)∧(1≤o0 a b v∧o0 a b v≤1000000)∧(1≤o3 a b v∧o3 a b v≤1000000):=by
 have ca:=ha.RU v
 have cb:=hb.RU v
 have key:∀{x y:Int},0<x→0<y→x≤1000000→(1≤(bJ x y:Int)∧(bJ x y:Int)≤x)∧(1≤x.tdiv (bJ x y)∧x.tdiv (bJ x y)≤x):=by
  intro x y hx hy hm
  have g1:0<bJ x y:=Int.gcd_pos_of_ne_zero_left _ (by omega)
  have g2:(bJ x y:Int)∣x:=Int.gcd_dvd_left ..
  have g3:(bJ x y:Int)≤x:=Int.le_of_dvd hx g2
  refine⟨⟨by omega,g3⟩,?_,?_⟩
  ·rw[jL (by omega)]
   exact Int.le_ediv_of_mul_le (by omega) (by omega)
  ·rw[jL (by omega)]
   exact Int.ediv_le_self _ (by omega)
 have k1:=key h1 (y:=-(bR b v)) (by omega) ca.2
 have k2:=key (x:=-(bR b v)) (y:=bR a v) (by omega) h1 (by omega)
 rw[Int.gcd_comm] at k2
 unfold o0 o3 ug
 omega
theorem Rg:∀{m n:Int}{as bs:List Int},(0≤m∧m≤1000000)→(0≤n∧n≤1000000)→(∀u∈as,0≤u∧u≤1000000)→(∀u∈bs,0≤u∧u≤1000000)→∀u∈comb m n as bs,0≤u∧u≤2000000000000
 | _,_,[],_,_,_,_,_,u,hu=>by simp[comb] at hu
 | _,_,_::_,[],_,_,_,_,u,hu=>by simp[comb] at hu
 | m,n,a::as,b::bs,hm,hn,h1,h2,u,hu=>by
   simp only[comb,ay] at hu
   rcases hu with e|hu
   ·have ha:=h1 a (by simp)
    have hb:=h2 b (by simp)
    have p1:0≤m*a:=Int.mul_nonneg hm.1 ha.1
    have p2:0≤n*b:=Int.mul_nonneg hn.1 hb.1
    have p3:=(dj hm.1 hm.2 (b:=a) ⟨by omega,ha.2⟩).2
    have p4:=(dj hn.1 hn.2 (b:=b) ⟨by omega,hb.2⟩).2
    rw[e];omega
   ·exact Rg hm hn (fun x hx=>h1 x (bl _ hx)) (fun x hx=>h2 x (bl _ hx)) u hu
theorem SH{a b:ib}{m n:Int}(h:(dL a m b n).2=true):dF (dL a m b n).1=true:=by
 unfold dL jm at h⊢
 split
 ·rename_i h1
  rw[if_pos h1] at h
  split
  ·rename_i h2;exact h2
  ·rename_i h2;rw[if_neg h2] at h;cases h
 ·rename_i h1;rw[if_neg h1] at h;cases h
theorem TL{n:Nat}{a b:cz}{v:Nat}(ha:Ha n a)(hb:Ha n b)(h1:0<bR a v)(h2:bR b v<0)(h:tC a b v=true):Ha n (AF a b v):=by
 simp only[tC,ai,cd,decide_eq_true_eq] at h
 obtain⟨_,hp,hq⟩:=D3 ha hb h1 h2
 refine⟨SH h.1,?_,fun u hu=>⟨?_,h.2 u hu⟩⟩
 ·show(comb _ _ _ _).length=n
  rw[j5 (by rw[ha.len,hb.len]),ha.len]
 ·exact(Rg ⟨by omega,hq.2⟩ ⟨by omega,hp.2⟩ ha.bd hb.bd u hu).1
theorem O6{a:cz}{v:Nat}{rows:List cz}{p:cz×cz}(h:p∈o6 a v rows):p.1=a∧p.2∈rows∧0<bR p.1 v∧bR p.2 v<0:=by
 simp only[o6,List.mem_filterMap] at h
 obtain⟨b,hb,e⟩:=h
 split at e
 ·rename_i hc
  simp only[Option.some.injEq] at e
  rw[←e]
  exact⟨rfl,hb,hc.1,hc.2⟩
 ·cases e
theorem C2{n v:Nat}:∀{ps:List (cz×cz)}{out r:List cz},(∀p∈ps,Ha n p.1∧Ha n p.2∧0<bR p.1 v∧bR p.2 v<0)→wK n out→mJ v ps out=some r→wK n r
 | [],out,r,_,ho,h=>by
   simp only[mJ,Option.some.injEq] at h
   rw[←h];exact ho
 | (a,b)::ps,out,r,hp,ho,h=>by
   rw[mJ] at h
   split at h
   ·rename_i hc
    obtain⟨g1,g2,g3,g4⟩:=hp (a,b) (by simp)
    refine C2 (fun p hq=>hp p (bl _ hq)) ⟨by simp;omega,fun x hx=>?_⟩ h
    rcases aR.1 hx with e|e
    ·exact ho.2 x e
    ·simp only[ay,bn,or_false] at e
     rw[e]
     exact TL g1 g2 g3 g4 hc.1
   ·cases h
theorem SO{n v:Nat}{all rows:List cz}(h1:∀r∈all,Ha n r)(h2:∀r∈rows,Ha n r):∀p∈o7 all rows v,Ha n p.1∧Ha n p.2∧0<bR p.1 v∧bR p.2 v<0:=by
 intro p hp
 simp only[o7,fF] at hp
 obtain⟨a,ha,hb⟩:=hp
 obtain⟨e1,e2,e3,e4⟩:=O6 hb
 exact⟨e1▸h2 a ha,h1 _ e2,e3,e4⟩
theorem ke{n v:Nat}{rows r:List cz}(h:wK n rows)(hr:gU rows v=some r):wK n r:=
 C2 (SO h.2 h.2) ⟨Nat.le_trans (List.length_filter_le _ _) h.1,fun x hx=>h.2 x (List.mem_filter.1 hx).1⟩ hr
theorem Dj{a:cz}{v j:Nat}{rows:List cz}(h:j<rows.length):o6 a v (rows.drop j)=(if 0<bR a v∧bR rows[j] v<0 then [(a,rows[j])] else [])++o6 a v (rows.drop (j+1)):=by
 unfold o6
 rw[aj h,List.filterMap_cons]
 split<;>simp_all
theorem Ml{a:cz}{v:Nat}{rows:List cz}(h:¬0<bR a v):o6 a v rows=[]:=by
 unfold o6
 refine List.filterMap_eq_nil_iff.2 fun b _=>?_
 rw[if_neg (by omega)]
theorem C4{v i:Nat}{all rows:List cz}(h:i<rows.length):o7 all (rows.drop i) v=o6 rows[i] v all++o7 all (rows.drop (i+1)) v:=by
 unfold o7
 rw[aj h,List.flatMap_cons]
theorem CB{α:Type}{p:α→Bool}{l:List α}{i:Nat}(h:i<l.length):(l.take (i+1)).filter p=(l.take i).filter p++(if p l[i] then [l[i]] else []):=by
 rw[bC,ah h,List.filter_append]
 congr 1
 simp only[Option.toList_some,List.filter_cons,List.filter_nil]
theorem GW(xs:List Rat)(sum:Rat):kL [] xs sum=some sum:=by cases xs<;>rfl
theorem Po(v i:Nat)(xs:List Rat)(sum:Rat):qN v i [] xs sum=some sum:=by cases xs<;>rfl
theorem Mc{v i:Nat}{cs:List Int}{xs:List Rat}(h:i<cs.length)(h':i<xs.length)(sum:Rat):qN v i (cs.drop i) (xs.drop i) sum=if i=v then qN v (i+1) (cs.drop (i+1)) (xs.drop (i+1)) sum else if(plus sum (-cs[i]) xs[i]).2 then qN v (i+1) (cs.drop (i+1)) (xs.drop (i+1)) (plus sum (-cs[i]) xs[i]).1 else none:=by
 rw[aj h,aj h',qN]
theorem No{i:Nat}{cs:List Int}{xs:List Rat}(h:i<cs.length)(h':i<xs.length)(sum:Rat):kL (cs.drop i) (xs.drop i) sum=if(plus sum cs[i] xs[i]).2 then kL (cs.drop (i+1)) (xs.drop (i+1)) (plus sum cs[i] xs[i]).1 else none:=by
 rw[aj h,aj h',kL]
theorem Me{v i:Nat}{aE:List Rat}{rows:List cz}(h:i<rows.length)(lo hi:Option Rat):oN v aE (rows.drop i) lo hi=if bR rows[i] v=0 then oN v aE (rows.drop (i+1)) lo hi else match mZ rows[i].jA v aE with
 | none=>none
 | some b=>if 0<bR rows[i] v then oN v aE (rows.drop (i+1)) lo (if lower b hi then some b else hi) else oN v aE (rows.drop (i+1)) (if upper b lo then some b else lo) hi:=by
 rw[aj h,oN]
 try rfl
theorem Db{n d:Int}(h:(ig n d).2=false):(ig n d).1=jF:=by
 unfold ig at h⊢
 split
 ·rfl
 ·rename_i h0
  rw[if_neg h0] at h
  simp only at h⊢
  generalize (⟨_,_⟩:Rat)=x at h⊢
  cases hx:bV x
  ·simp
  ·simp[hx] at h
theorem tj{a b:Rat}(h:(c8 a b).2=false):(c8 a b).1=jF:=by
 unfold c8 at h⊢
 split
 ·rename_i h0;rw[if_pos h0] at h;exact Db h
 ·rfl
theorem CW{a b:Rat}(h:(cq a b).2=false):(cq a b).1=jF:=by
 unfold cq at h⊢
 split
 ·rename_i h0;rw[if_pos h0] at h;exact Db h
 ·rfl
theorem LM{a b:Rat}(h:(qP a b).2=false):(qP a b).1=jF:=by
 unfold qP at h⊢
 split
 ·rename_i h0;rw[if_pos h0] at h;exact CW h
 ·rfl
theorem Il{x:Rat×Bool}(h:x.2=false→x.1=jF):(zx x).getD jF=x.1∧(zx x).isSome=x.2:=by
 unfold zx
 cases hx:x.2
 ·rw[if_neg (by simp),h hx];exact⟨rfl,rfl⟩
 ·rw[if_pos rfl];exact⟨rfl,rfl⟩
theorem JQ:∀{l h:Option Rat},(kI l h).2=false→(kI l h).1=jF
 | some _,some _,h=>LM h
 | none,some _,h=>tj h
 | some _,none,h=>tj h
 | none,none,h=>by cases h
theorem sS{rows:List cz}{v:Nat}{aE:List Rat}{st:List (List cz)}(h:valueOf rows v aE=none):me (rows::st) v aE=none:=by
 rw[me,h]
theorem sG{rows:List cz}{v:Nat}{aE:List Rat}{st:List (List cz)}{x:Rat}(h:valueOf rows v aE=some x):me (rows::st) v aE=me st (v+1) (aE.set v x):=by
 rw[me,h]
theorem NN{l:List Rat}{i:Nat}{x:Rat}:(br l).set i (eO x)=br (l.set i x):=by simp[br,kp]
theorem qu{l:List Rat}{i:Nat}{x:Rat}(h:i<l.length):(br l).set i (sr (row (br l) i) 0 [.val (.int .i64 x.N),.val (.int .i64 x.D)])=br (l.set i x):=by
 rw[wj h,←NN]
 rfl
theorem mw{s n:Nat}{p:Nat×Nat}:p∈dD s n↔s≤p.1∧p.1<p.2∧p.2<n:=by
 obtain⟨i,k⟩:=p
 simp only[dD,fF,bD,List.mem_range'_1,Prod.mk.injEq]
 constructor
 ·rintro⟨i',h1,k',h2,rfl,rfl⟩;omega
 ·rintro⟨h1,h2,h3⟩
  exact⟨i,by omega,k,by omega,rfl,rfl⟩
theorem DD{i n:Nat}(h:i<n):dD i n=(dG (i+1) (n-(i+1))).map (fun k=>(i,k))++dD (i+1) n:=by
 unfold dD
 rw[nX h]
 rfl
theorem oE{i n:Nat}(h:n≤i):dD i n=[]:=by
 unfold dD
 rw[pf h]
 rfl
theorem kM{n:Nat}{p:Nat→Nat→Bool}{q:Nat×Nat}(h:b6 n p=some q):q.1<q.2∧q.2<n∧p q.1 q.2=true:=by
 have h1:=List.find?_some h
 have h2:=mw.1 (eY h)
 exact⟨h2.2.1,h2.2.2,h1⟩
theorem xe{n:Nat}{p:Nat→Nat→Bool}(h:b6 n p=none){i k:Nat}(h1:i<k)(h2:k<n):p i k=false:=by
 have:=List.find?_eq_none.1 h (i,k) (mw.2 ⟨bh _,h1,h2⟩)
 simpa using this
theorem countP_le{α:Type}{p q:α→Bool}:∀{l:List α},(∀x∈l,p x=true→q x=true)→l.countP p≤l.countP q
 | [],_=>aI _
 | x::l,h=>by
   have:=countP_le (l:=l) fun y hy=>h y (bl _ hy)
   have hx:=h x (by simp)
   simp only[List.countP_cons]
   cases hp:p x
   ·simp;omega
   ·simp[hx hp];omega
theorem B0{α:Type}{p q:α→Bool}:∀{l:List α}{x:α},(∀x∈l,p x=true→q x=true)→x∈l→p x=false→q x=true→l.countP p<l.countP q
 | y::l,x,h,hx,hp,hq=>by
   simp only[List.countP_cons]
   rcases ay.1 hx with e|e
   ·have:=countP_le (l:=l) fun y hy=>h y (bl _ hy)
    rw[←e,hp,hq]
    simp;omega
   ·have:=B0 (l:=l) (fun y hy=>h y (bl _ hy)) e hp hq
    have hy:=h y (by simp)
    cases hpy:p y
    ·simp;omega
    ·simp[hy hpy];omega
theorem u7(nums:List Term)(out:List Nat)(e:iy):(eU nums out e).length=out.length:=by
 unfold eU
 split<;>simp
theorem rr(nums:List Term)(eqs:List iy):(j9 nums eqs).length=nums.length:=by
 unfold j9
 have:∀(l:List iy)(c:List Nat),(l.foldl (eU nums) c).length=c.length:=by
  intro l
  induction l with
  | nil=>intro c;rfl
  | cons s l ih=>intro c;rw[gk,ih,u7]
 rw[this,fN]
theorem EF(nums:List Term)(eqs:List iy)(e:iy):j9 nums (eqs++[e])=eU nums (j9 nums eqs) e:=by
 rw[j9,ml];rfl
theorem HJ{nums:List Term}{out:List Nat}{e:iy}{i k:Nat}(hi:i<out.length)(hk:k<out.length)(h:cl out i=cl out k):cl (eU nums out e) i=cl (eU nums out e) k:=by
 unfold eU
 split
 ·exact h
 ·rw[vu hi,vu hk,h]
theorem IE(a b:List bp):bc (a++b)=bc a++bc b:=by simp[bc]
theorem Mf(a b:Term):bc [gJ a b]=[⟨a,b⟩]:=rfl
theorem MH{nums:List Term}{ab more:List bp}{i k:Nat}(hi:i<nums.length)(hk:k<nums.length)(h:linked nums ab i k=true):linked nums (ab++more) i k=true:=by
 simp only[linked,decide_eq_true_eq] at h⊢
 rw[IE]
 generalize bc more=es
 generalize bc ab=ds at h
 induction es generalizing ds with
 | nil=>rw[bF];exact h
 | cons e es ih=>
   have:=ih (ds++[e]) (by
    rw[EF]
    exact HJ (by rw[rr];exact hi) (by rw[rr];exact hk) h)
   rw[bm] at this
   exact this
theorem jC{nums:List Term}(hn:nums.Nodup){i:Nat}(hi:i<nums.length):bL nums nums[i]=i:=by
 have hm:nums[i]∈nums:=ak hi
 have h1:=iH hm
 have h2:=cK.2 hm
 obtain⟨h3,h4⟩:=bA.1 h1
 have:=(List.getElem_inj hn).1 h4
 omega
theorem eX{nums:List Term}{i:Nat}(hi:i<nums.length):nums.getD i aL=nums[i]:=by
 rw[az,ah hi];rfl
theorem PM{nums:List Term}(hn:nums.Nodup){ab:List bp}{i k:Nat}(hi:i<nums.length)(hk:k<nums.length):linked nums (ab++[gJ (nums.getD i aL) (nums.getD k aL)]) i k=true:=by
 simp only[linked,decide_eq_true_eq]
 rw[IE,Mf,EF,eU,eX hi,eX hk]
 have e1:=jC hn hi
 have e2:=jC hn hk
 simp only[e1,e2,aH,bo]
 rw[if_neg (by omega),vu (by rw[rr];exact hi),vu (by rw[rr];exact hk)]
 simp
theorem CL{nums:List Term}{ab more:List bp}{i k:Nat}(h:eM nums ab i k=true):eM nums (ab++more) i k=true:=by
 simp only[eM,List.any_append,Bool.or_eq_true] at h⊢
 exact .inl h
theorem Gf(a b:Term):(dz a b).no=false:=by
 unfold dz
 split<;>rfl
theorem Fx{nums:List Term}{ab:List bp}{i k:Nat}:eM nums (ab++[dz (nums.getD i aL) (nums.getD k aL)]) i k=true:=by
 simp[eM,Gf]
def qE(nums:List Term)(ab:List bp)(i k:Nat):Bool:=!linked nums ab i k&&(!eM nums ab i k&& !eM nums ab k i)
def room(nums:List Term)(ab:List bp):Nat:=(dD 0 nums.length).countP (fun q=>!linked nums ab q.1 q.2)+(dD 0 nums.length).countP (fun q=>qE nums ab q.1 q.2)
theorem vk{nums:List Term}{ab more:List bp}:∀q∈dD 0 nums.length,(!linked nums (ab++more) q.1 q.2)=true→(!linked nums ab q.1 q.2)=true:=by
 intro q hq h
 have hm:=mw.1 hq
 cases hl:linked nums ab q.1 q.2
 ·rfl
 ·rw[MH (by omega) (by omega) hl] at h;cases h
theorem Mb{nums:List Term}{ab more:List bp}:∀q∈dD 0 nums.length,qE nums (ab++more) q.1 q.2=true→qE nums ab q.1 q.2=true:=by
 intro q hq h
 simp only[qE,ai] at h⊢
 refine⟨vk q hq h.1,?_,?_⟩
 ·cases hl:eM nums ab q.1 q.2
  ·rfl
  ·rw[CL hl] at h;simp at h
 ·cases hl:eM nums ab q.2 q.1
  ·rfl
  ·have:=h.2.2;rw[CL hl] at this;cases this
theorem X0{nums:List Term}(hn:nums.Nodup){ab:List bp}{i k:Nat}(h1:i<k)(h2:k<nums.length)(h:linked nums ab i k=false):room nums (ab++[gJ (nums.getD i aL) (nums.getD k aL)])<room nums ab:=by
 unfold room
 have a:=B0 (x:=(i,k)) (vk (more:=[gJ (nums.getD i aL) (nums.getD k aL)])) (mw.2 ⟨bh _,h1,h2⟩) (by show(!linked nums (ab++[gJ (nums.getD i aL) (nums.getD k aL)]) i k)=false;rw[PM hn (show i<nums.length by omega) h2];rfl) (by rw[h];rfl)
 have b:=countP_le (Mb (nums:=nums) (ab:=ab) (more:=[gJ (nums.getD i aL) (nums.getD k aL)]))
 omega
theorem Js{nums:List Term}{ab:List bp}{i k:Nat}(h1:i<k)(h2:k<nums.length)(h:qE nums ab i k=true){l:bp}(hl:l=dz (nums.getD i aL) (nums.getD k aL)∨l=dz (nums.getD k aL) (nums.getD i aL)):room nums (ab++[l])<room nums ab:=by
 unfold room
 have a:=countP_le (vk (nums:=nums) (ab:=ab) (more:=[l]))
 have b:=B0 (x:=(i,k)) (Mb (nums:=nums) (ab:=ab) (more:=[l])) (mw.2 ⟨bh _,h1,h2⟩) (by
  rcases hl with rfl|rfl
  ·simp only[qE,Fx];simp
  ·simp only[qE,Fx];simp) h
 omega
theorem room_le{nums:List Term}(h:nums.length≤4)(ab:List bp):room nums ab≤12:=by
 have a:=List.countP_le_length (p:=fun q:Nat×Nat=>!linked nums ab q.1 q.2) (l:=dD 0 nums.length)
 have b:=List.countP_le_length (p:=fun q:Nat×Nat=>qE nums ab q.1 q.2) (l:=dD 0 nums.length)
 have c:(dD 0 nums.length).length≤6:=by
  have key:∀n,n≤4→(dD 0 n).length≤6:=by decide
  exact key _ h
 unfold room
 omega
def pH(af:List Step)(v i:Nat):Option Edge:=if vB af i=v then some ⟨i,true⟩ else if vA af i=v then some ⟨i,false⟩ else none
def uG(rec_:Nat→List Nat→Option (List Edge))(af:List Step)(v:Nat)(dJ:List Nat):List Nat→Option (List Edge)
 | []=>none
 | i::is=>match pH af v i with
   | none=>uG rec_ af v dJ is
   | some e=>if ij af e∈dJ then uG rec_ af v dJ is else match rec_ (ij af e) (dJ++[ij af e]) with
     | none=>uG rec_ af v dJ is
     | some r=>some (e::r)
def tw(af:List Step)(n to:Nat):Nat→Nat→List Nat→Option (List Edge)
 | 0,_,_=>none
 | f+1,v,dJ=>if v=to then some [] else uG (tw af n to f) af v dJ (bt n)
def uc(e:Edge):Int:=if e.back then -1-(e.step:Int) else e.step
theorem Mz{af:List Step}{v i:Nat}{e:Edge}(h:pH af v i=some e):e.step=i∧gC af e=v:=by
 unfold pH at h
 split at h
 ·rename_i h1;simp only[Option.some.injEq] at h;rw[←h];exact⟨rfl,h1⟩
 ·split at h
  ·rename_i h1;simp only[Option.some.injEq] at h;rw[←h];exact⟨rfl,h1⟩
  ·cases h
def Found(af:List Step)(n to v:Nat)(dJ:List Nat)(es:List Edge):Prop:=oI n es∧pJ af v es to∧(gO af v es).Nodup∧∀w∈es.map (ij af),w∉dJ
theorem GL{af:List Step}{n to v:Nat}{dJ:List Nat}{rec_:Nat→List Nat→Option (List Edge)}(hv:v∈dJ)(hr:∀w seen' es,w∈seen'→rec_ w seen'=some es→Found af n to w seen' es) :
 ∀{is:List Nat}{es:List Edge},(∀i∈is,i<n)→uG rec_ af v dJ is=some es→Found af n to v dJ es
 | [],es,_,h=>by cases h
 | i::is,es,hi,h=>by
   have more:=GL (is:=is) (es:=es) hv hr fun j hj=>hi j (bl _ hj)
   simp only[uG] at h
   split at h
   ·exact more h
   ·rename_i e he
    obtain⟨h1,h2⟩:=Mz he
    split at h
    ·exact more h
    ·rename_i hs
     split at h
     ·exact more h
     ·rename_i r jf
      simp only[Option.some.injEq] at h
      obtain⟨a1,a2,a3,a4⟩:=hr _ _ _ (by simp) jf
      rw[←h]
      refine⟨fun x hx=>?_,⟨h2,a2⟩,?_,?_⟩
      ·rcases ay.1 hx with e1|hx
       ·rw[e1,h1];exact hi i (by simp)
       ·exact a1 x hx
      ·refine cE.2 ⟨fun hm=>?_,?_⟩
       ·simp only[aQ,ay] at hm
        rcases hm with e1|hm
        ·rw[e1] at hv;exact hs hv
        ·exact a4 v hm (cY _ hv)
       ·exact a3
      ·intro w hw hws
       simp only[aQ,ay] at hw
       rcases hw with e1|hw
       ·rw[e1] at hws;exact hs hws
       ·exact a4 w hw (cY _ hws)
theorem FQ{af:List Step}{n to:Nat}:∀(f v:Nat)(dJ:List Nat)(es:List Edge),v∈dJ→tw af n to f v dJ=some es→Found af n to v dJ es
 | 0,_,_,_,_,h=>by cases h
 | f+1,v,dJ,es,hv,h=>by
   rw[tw] at h
   split at h
   ·rename_i e
    simp only[Option.some.injEq] at h
    rw[←h]
    exact⟨fun x hx=>by simp at hx,e,by simp[gO],fun w hw=>by simp at hw⟩
   ·exact GL hv (fun w s es hw hr=>FQ f w s es hw hr) (fun i hi=>fc.1 hi) h
theorem It{af:List Step}{v:Nat}{dJ:List Nat}{rec_:Nat→List Nat→Option (List Edge)}{e:Edge}(he:pH af v e.step=some e)(hs:ij af e∉dJ)(hr:(rec_ (ij af e) (dJ++[ij af e])).isSome=true) :
 ∀{is:List Nat},e.step∈is→(uG rec_ af v dJ is).isSome=true
 | i::is,hm=>by
   rcases ay.1 hm with e1|hm
   ·subst e1
    simp only[uG,he,if_neg hs]
    obtain⟨r,jf⟩:=cH.1 hr
    simp[jf]
   ·have more:=It he hs hr hm
    simp only[uG]
    split
    ·exact more
    ·split
     ·exact more
     ·split
      ·exact more
      ·rfl
section
variable{ae:List Term}{eqs:List iy}{af:List Step}(eP:lq ae eqs af)
include eP
theorem Nj{e:Edge}(h:e.step<af.length):pH af (gC af e) e.step=some e:=by
 have jv:=(ot eP h).ne
 obtain⟨k,b⟩:=e
 unfold pH gC
 cases b
 ·simp only[ax,if_false]
  rw[if_neg (fun he=>jv (by simp only[vA,vB] at he;rw[he])),if_pos True.intro]
 ·simp
theorem Ih{n to:Nat}(hn:n≤af.length):∀(es:List Edge)(f v:Nat)(dJ:List Nat),dJ.Nodup→(∀w∈dJ,w<ae.length)→ae.length+1≤f+dJ.length→oI n es→pJ af v es to→(gO af v es).Nodup→(∀w∈es.map (ij af),w∉dJ) →
 (tw af n to f v dJ).isSome=true
 | es,0,v,dJ,h1,h2,h3,_,_,_,_=>by
   have:=j8 h1 h2
   omega
 | [],f+1,v,dJ,_,_,_,_,hw,_,_=>by
   simp only[pJ] at hw
   rw[tw,if_pos hw];rfl
 | e::es,f+1,v,dJ,h1,h2,h3,hi,hw,hnd,hs=>by
   have he:=hi e (by simp)
   obtain⟨w1,w2⟩:=hw
   have hto:to∈(e::es).map (ij af):=by
    have:=Gh w2
    simpa[gO] using this
   have hv:v≠to:=fun h=>(cE.1 hnd).1 (h▸hto)
   rw[tw,if_neg hv]
   have hen:ij af e∉dJ:=hs _ (by simp)
   refine It (e:=e) (by rw[←w1];exact Nj eP (by omega)) hen ?_ (fc.2 he)
   refine Ih hn es f _ _ (df.2 ⟨h1,by simp,fun x hx y hy e1=>?_⟩) (fun w hw=>?_) (by simp;omega) (fun x hx=>hi x (bl _ hx)) w2 (cE.1 hnd).2 (fun w hw hws=>?_)
   ·simp only[ay,bn,or_false] at hy
    rw[e1,hy] at hx
    exact hen hx
   ·rcases aR.1 hw with hw|hw
    ·exact h2 w hw
    ·simp only[ay,bn,or_false] at hw
     rw[hw];exact xO eP (by omega)
   ·rcases aR.1 hws with hws|hws
    ·exact hs w (by simp only[aQ,ay];exact .inr hw) hws
    ·simp only[ay,bn,or_false] at hws
     have:=(cE.1 (cE.1 hnd).2).1
     rw[hws] at hw
     exact this hw
theorem XY{n a b:Nat}(hn:n≤af.length)(ha:a<ae.length)(hb:b<ae.length)(h:cl (aV ae.length af n) a=cl (aV ae.length af n) b):tw af n b ae.length a [a]=some (lO ae.length af n a b):=by
 obtain⟨i1,i2,i3⟩:=rE eP hn ha hb h
 have hsome:=Ih eP hn (to:=b) _ ae.length a [a] (by simp) (fun w hw=>by simp at hw;omega) (by simp) i1 i2 i3 (fun w hw hws=>by
  simp only[ay,bn,or_false] at hws
  rw[hws] at hw
  exact(cE.1 i3).1 hw)
 obtain⟨es,he⟩:=cH.1 hsome
 obtain⟨f1,f2,f3,f4⟩:=FQ _ _ _ _ (by simp) he
 rw[he,rO eP hn ha f1 f2 f3]
end
theorem N7{n:Int}:lg n 0=(jF,false):=by
 unfold lg ig
 split<;>simp
theorem Fu{n d:Int}(h:1000000000<ri n∨1000000000<ri d):lg n d=(jF,false):=by
 unfold lg
 rw[if_neg]
 simp only[ai,dx]
 rintro⟨h1,h2⟩
 have:=sM.2 h1
 have:=sM.2 h2
 omega
theorem Vg{n d:Int}(h1:ri n≤1000000000)(h2:ri d≤1000000000):lg n d=ig n d:=by
 unfold lg
 rw[if_pos]
 simp only[ai,dx]
 exact⟨sM.1 h1,sM.1 h2⟩
theorem My{n d:Int}(h0:¬d=0)(h:d<0):ig n d=ig (-n) (-d):=by
 have h2:¬ -d<0:=by omega
 have h3:¬ -d=0:=by omega
 unfold ig
 simp only[if_neg h0,if_pos h,if_neg h2,if_neg h3]
def sy:List Int→List Rat→Rat→Rat×Bool
 | c::cs,x::xs,sum=>if(cq (whole c) x).2 then(if(c8 sum (cq (whole c) x).1).2 then sy cs xs (c8 sum (cq (whole c) x).1).1 else(jF,false)) else(sum,false)
 | _,_,sum=>(sum,true)
theorem Gm:∀{cs:List Int}{xs:List Rat}{sum:Rat},kL cs xs sum=zx (sy cs xs sum)
 | [],_,sum=>rfl
 | _::_,[],sum=>rfl
 | c::cs,x::xs,sum=>by
   rw[kL,sy]
   rcases kF (cq (whole c) x).2 with h1|h1
   ·have e:plus sum c x=c8 sum (cq (whole c) x).1:=by rw[plus,if_pos h1]
    rw[e,if_pos h1]
    rcases kF (c8 sum (cq (whole c) x).1).2 with h2|h2
    ·rw[if_pos h2,if_pos h2]
     exact Gm
    ·rw[if_neg (by rw[h2];simp),if_neg (by rw[h2];simp)]
     rfl
   ·have e:plus sum c x=(jF,false):=by rw[plus,if_neg (by rw[h1];simp)]
    rw[e,if_neg (by simp),if_neg (by rw[h1];simp)]
    rfl
theorem OA{i:Nat}{cs:List Int}{xs:List Rat}(h:i<cs.length)(h':i<xs.length)(sum:Rat):sy (cs.drop i) (xs.drop i) sum=if(cq (whole cs[i]) xs[i]).2 then(if(c8 sum (cq (whole cs[i]) xs[i]).1).2 then sy (cs.drop (i+1)) (xs.drop (i+1)) (c8 sum (cq (whole cs[i]) xs[i]).1).1 else(jF,false)) else(sum,false):=by
 rw[aj h,aj h',sy]
theorem Sd(xs:List Rat)(sum:Rat):sy [] xs sum=(sum,true):=by cases xs<;>rfl
theorem Im:∀{cs:List Int}{xs:List Rat}{sum r:Rat},bV sum=true→kL cs xs sum=some r→bV r=true
 | [],_,sum,r,h,e=>by simp only[kL,Option.some.injEq] at e;rw[←e];exact h
 | _::_,[],sum,r,h,e=>by simp only[kL,Option.some.injEq] at e;rw[←e];exact h
 | c::cs,x::xs,sum,r,h,e=>by
   simp only[kL] at e
   split at e
   ·rename_i h1;exact Im (QI h1) e
   ·cases e
def m9(v:Nat):Nat→List Int→List Rat→Rat→Rat×Bool
 | i,c::cs,x::xs,sum=>if i=v then m9 v (i+1) cs xs sum else if(cq (whole (-c)) x).2 then(if(c8 sum (cq (whole (-c)) x).1).2 then m9 v (i+1) cs xs (c8 sum (cq (whole (-c)) x).1).1 else(jF,false)) else(sum,false)
 | _,_,_,sum=>(sum,true)
theorem Ch{v:Nat}:∀{i:Nat}{cs:List Int}{xs:List Rat}{sum:Rat},qN v i cs xs sum=zx (m9 v i cs xs sum)
 | _,[],_,sum=>rfl
 | _,_::_,[],sum=>rfl
 | i,c::cs,x::xs,sum=>by
   rw[qN,m9]
   split
   ·exact Ch
   ·rcases kF (cq (whole (-c)) x).2 with h1|h1
    ·have e:plus sum (-c) x=c8 sum (cq (whole (-c)) x).1:=by rw[plus,if_pos h1]
     rw[e,if_pos h1]
     rcases kF (c8 sum (cq (whole (-c)) x).1).2 with h2|h2
     ·rw[if_pos h2,if_pos h2]
      exact Ch
     ·rw[if_neg (by rw[h2];simp),if_neg (by rw[h2];simp)]
      rfl
    ·have e:plus sum (-c) x=(jF,false):=by rw[plus,if_neg (by rw[h1];simp)]
     rw[e,if_neg (by simp),if_neg (by rw[h1];simp)]
     rfl
theorem Nu{v i:Nat}{cs:List Int}{xs:List Rat}(h:i<cs.length)(h':i<xs.length)(sum:Rat):m9 v i (cs.drop i) (xs.drop i) sum=if i=v then m9 v (i+1) (cs.drop (i+1)) (xs.drop (i+1)) sum else if(cq (whole (-cs[i])) xs[i]).2 then(if(c8 sum (cq (whole (-cs[i])) xs[i]).1).2 then m9 v (i+1) (cs.drop (i+1)) (xs.drop (i+1)) (c8 sum (cq (whole (-cs[i])) xs[i]).1).1 else(jF,false)) else(sum,false):=by
 rw[aj h,aj h',m9]
theorem PR(v i:Nat)(xs:List Rat)(sum:Rat):m9 v i [] xs sum=(sum,true):=by cases xs<;>rfl
def gz(l:ib)(v:Nat)(aE:List Rat):Rat×Bool:=
 if(m9 v 0 l.aG aE (whole l.bound)).2 then(if(lg 1 (l.aG.getD v 0)).2 then cq (m9 v 0 l.aG aE (whole l.bound)).1 (lg 1 (l.aG.getD v 0)).1 else((m9 v 0 l.aG aE (whole l.bound)).1,false)) else((m9 v 0 l.aG aE (whole l.bound)).1,false)
theorem Oc{l:ib}{v:Nat}{aE:List Rat}:mZ l v aE=zx (gz l v aE):=by
 unfold mZ gz
 rw[Ch]
 generalize m9 v 0 l.aG aE (whole l.bound)=r
 generalize lg 1 (l.aG.getD v 0)=b
 obtain⟨r,o⟩:=r
 obtain⟨b,p⟩:=b
 cases o<;>cases p<;>simp[zx]
def nZ(v:Nat):List (cz×cz)→List cz→List cz×Bool
 | [],out=>(out,true)
 | (a,b)::ps,out=>if tC a b v=true∧out.length<200 then nZ v ps (out++[AF a b v]) else(out,false)
def HW{α:Type}(x:α×Bool):Option α:=if x.2 then some x.1 else none
theorem AR{v:Nat}:∀{ps:List (cz×cz)}{out:List cz},mJ v ps out=HW (nZ v ps out)
 | [],out=>rfl
 | (a,b)::ps,out=>by
   rw[mJ,nZ]
   split
   ·exact AR
   ·rfl
def qe(rows:List cz)(v:Nat):List cz×Bool:=nZ v (o7 rows rows v) (rows.filter fun r=>decide (bR r v=0))
theorem Mw{rows:List cz}{v:Nat}:gU rows v=HW (qe rows v):=AR
theorem vl{rows:List cz}{v:Nat}(h:(qe rows v).2=false):gU rows v=none:=by rw[Mw,HW,h];rfl
theorem uR{rows:List cz}{v:Nat}(h:(qe rows v).2=true):gU rows v=some (qe rows v).1:=by rw[Mw,HW,h];rfl
def ix(v:Nat)(aE:List Rat):List cz→Option Rat→Option Rat→(Option Rat×Option Rat)×Bool
 | [],lo,hi=>((lo,hi),true)
 | r::rs,lo,hi=>if bR r v=0 then ix v aE rs lo hi else
   if(gz r.jA v aE).2 then
    (if 0<bR r v then ix v aE rs lo (if lower (gz r.jA v aE).1 hi then some (gz r.jA v aE).1 else hi) else ix v aE rs (if upper (gz r.jA v aE).1 lo then some (gz r.jA v aE).1 else lo) hi)
   else((lo,hi),false)
theorem Br{v:Nat}{aE:List Rat}:∀{rows:List cz}{lo hi:Option Rat},oN v aE rows lo hi=HW (ix v aE rows lo hi)
 | [],lo,hi=>rfl
 | r::rs,lo,hi=>by
   rw[oN,ix,Oc,zx]
   split
   ·exact Br
   ·generalize gz r.jA v aE=b
    obtain⟨b,ok⟩:=b
    cases ok
    ·rfl
    ·simp only[if_true]
     split
     ·exact Br
     ·exact Br
theorem O7{v i:Nat}{aE:List Rat}{rows:List cz}(h:i<rows.length)(lo hi:Option Rat):ix v aE (rows.drop i) lo hi=if bR rows[i] v=0 then ix v aE (rows.drop (i+1)) lo hi else
 if(gz rows[i].jA v aE).2 then
  (if 0<bR rows[i] v then ix v aE (rows.drop (i+1)) lo (if lower (gz rows[i].jA v aE).1 hi then some (gz rows[i].jA v aE).1 else hi) else ix v aE (rows.drop (i+1)) (if upper (gz rows[i].jA v aE).1 lo then some (gz rows[i].jA v aE).1 else lo) hi)
 else((lo,hi),false):=by
 rw[aj h,ix]
def vG:List (List cz)→Nat→List Rat→List Rat×Bool
 | [],_,aE=>(aE,true)
 | rows::st,v,aE=>
   if(ix v aE rows none none).2 then
    (if(kI (ix v aE rows none none).1.1 (ix v aE rows none none).1.2).2 then vG st (v+1) (aE.set v (kI (ix v aE rows none none).1.1 (ix v aE rows none none).1.2).1)
     else(aE.set v (kI (ix v aE rows none none).1.1 (ix v aE rows none none).1.2).1,false))
   else(aE,false)
theorem Mx:∀{st:List (List cz)}{v:Nat}{aE:List Rat},me st v aE=HW (vG st v aE)
 | [],v,aE=>rfl
 | rows::st,v,aE=>by
   rw[me,vG,valueOf,Br,HW]
   generalize ix v aE rows none none=b
   obtain⟨⟨lo,hi⟩,ok⟩:=b
   cases ok
   ·rfl
   ·simp only[if_true,zx]
    generalize kI lo hi=c
    obtain⟨c,ok⟩:=c
    cases ok
    ·rfl
    ·exact Mx
theorem PD{st:List (List cz)}{i:Nat}(h:i<st.length)(aE:List Rat):vG (st.drop i) i aE =
 if(ix i aE st[i] none none).2 then
  (if(kI (ix i aE st[i] none none).1.1 (ix i aE st[i] none none).1.2).2 then vG (st.drop (i+1)) (i+1) (aE.set i (kI (ix i aE st[i] none none).1.1 (ix i aE st[i] none none).1.2).1)
   else(aE.set i (kI (ix i aE st[i] none none).1.1 (ix i aE st[i] none none).1.2).1,false))
 else(aE,false):=by
 rw[aj h,vG]
def PE(rows:List cz):List Int:=match rows.find? fun r=>jJ r.jA with|some r=>r.fI|none=>[]
theorem RG(v:Nat):gU [] v=some []:=rfl
def pq(l:List (List cz)):List (List D):=l.map fun x=>[.dP (dU x)]
theorem OD(l:List (List cz)):(pq l).length=l.length:=by simp[pq]
theorem pD{l:List (List cz)}{i:Nat}(h:i<l.length):row (pq l) i=[.dP (dU l[i])]:=by simp[pq,row,cC,ah h]
theorem vf{l:List (List cz)}{i:Nat}{x:List cz}(h:i<l.length):(pq l).set i (sr (row (pq l) i) 0 [.dP (dU x)])=pq (l.set i x):=by
 rw[pD h]
 simp[pq,kp,sr]
attribute [go_sem] OD pD
def gQ(ae:List Term):Prop:=∀t∈ae,∀k∈t.kids,k∈ae
theorem bx{ae:List Term}{t:Term}(h:t∈ae):aH ae t<ae.length:=nP h
theorem b7{ae:List Term}{t:Term}(h:t∈ae):bL ae t=(aH ae t:Int):=by
 have:=cK.2 h
 unfold aH
 omega
theorem Dd{ae:List Term}{c:List Nat}{xs ys:List Term}{i:Nat}(h:i<xs.length)(h':i<ys.length):lA ae c (xs.drop i) (ys.drop i)=(Jd ae c xs[i] ys[i]&&lA ae c (xs.drop (i+1)) (ys.drop (i+1))):=by
 rw[aj h,aj h',lA]
theorem EG{ae:List Term}{c:List Nat}:lA ae c [] []=true:=rfl
theorem zL{ae:List Term}{c:List Nat}:∀{xs ys:List Term},xs.length≠ys.length→lA ae c xs ys=false
 | [],[],h=>(h rfl).elim
 | [],_::_,_=>rfl
 | _::_,[],_=>rfl
 | x::xs,y::ys,h=>by
   rw[lA,zL (by simpa using h),Bool.and_false]
def fB(c:List Nat)(from_ to i:Nat):List Nat:=((c.take i).map fun k=>if k=from_ then to else k)++c.drop i
theorem rR(c:List Nat)(f t i:Nat):(fB c f t i).length=c.length:=by simp[fB];omega
theorem rV{c:List Nat}{f t i:Nat}(h:i<c.length)(h':i<(fB c f t i).length):(fB c f t i)[i]=c[i]:=by
 have:(fB c f t i)[i]?=some c[i]:=by
  unfold fB
  rw[bu (by simp;omega)]
  simp only[dw,bS,nI (Nat.le_of_lt h),km,List.getElem?_drop,Nat.add_zero]
  exact ah h
 exact(bA.1 this).2
theorem qg{c:List Nat}{f t i:Nat}(h:i<c.length):fB c f t (i+1)=(fB c f t i).set i (if c[i]=f then t else c[i]):=by
 have e:((c.take i).map fun k=>if k=f then t else k).length=i:=by
  rw[dw,bS,nI (Nat.le_of_lt h)]
 unfold fB
 rw[List.set_append_right _ _ (by omega),e,km,aj h,List.set_cons_zero,bC,ah h,cP,bm]
 rfl
theorem tn{c:List Nat}{f t i:Nat}(h:i<c.length)(jv:c[i]≠f):fB c f t (i+1)=fB c f t i:=by
 rw[qg h,if_neg jv]
 conv=>rhs;rw[←List.set_getElem_self (as:=fB c f t i) (i:=i) (h:=by rw[rR];exact h)]
 rw[rV h]
theorem FC{c:List Nat}{a b i:Nat}(h:c.length≤i):fB c (max (cl c a) (cl c b)) (min (cl c a) (cl c b)) i=fV c a b:=by
 unfold fB fV
 rw[List.take_of_length_le h,List.drop_of_length_le h,bF]
theorem tS{l:List Nat}{i n:Nat}(h:i<l.length):(bO l).set i (sr (row (bO l) i) 0 [.val (.int .i64 (n:Int))])=bO (l.set i n):=by
 rw[pF h,←Se]
 rfl
def qd(e l n:Nat):List (Nat×Nat):=(dG e (l-e)).map (fun e=>(e,l))++jx (l+1) n
theorem v7{l n:Nat}(h:l<n):jx l n=qd 0 l n:=FU h
theorem yF{e l n:Nat}(h:e<l):qd e l n=(e,l)::qd (e+1) l n:=by
 unfold qd
 rw[nX h];rfl
theorem AO{e l n:Nat}(h:l≤e):qd e l n=jx (l+1) n:=by
 unfold qd
 rw[pf h];rfl
def uH(ae:List Term)(af:List Step)(vR:Nat→Nat→Nat→l9)(i:Nat):l9:=
 if(hJ af i).given<0 then .mk 5 0 (.mk (ae.getD (vA af i) aL).name []) (((ae.getD (vA af i) aL).kids.zip (ae.getD (vB af i) aL).kids).map fun p=>vR i (aH ae p.1) (aH ae p.2)) else .mk 2 (hJ af i).given aL []
theorem GN(ae:List Term)(af:List Step)(vR:Nat→Nat→Nat→l9)(e:Edge):kH ae af vR e=if e.back then .mk 3 0 aL [uH ae af vR e.step] else uH ae af vR e.step:=rfl
theorem rY{af:List Step}{i:Nat}(h:i<af.length):hJ af i=af[i]:=by
 rw[hJ,az,ah h];rfl
theorem w5{c:List Nat}{a b m:Nat}(h:∀x∈c,x≤m):∀x∈fV c a b,x≤m:=by
 intro x hx
 simp only[fV,bD] at hx
 obtain⟨y,hy,rfl⟩:=hx
 have hle:∀i,cl c i≤m:=fun i=>by
  rcases bU i c.length with h1|h1
  ·exact h _ (yV h1)
  ·rw[Yj h1];exact bh _
 have:=hle a
 have:=hle b
 have:=h y hy
 split<;>omega
theorem pw{m:Nat}:∀{c:List Nat},(∀x∈c,x≤m)→c.sum≤c.length*m
 | [],_=>by simp
 | x::c,h=>by
   have h1:=h x (by simp)
   have h2:=pw (c:=c) fun y hy=>h y (bl _ hy)
   simp only[List.sum_cons,a8,Nat.add_mul]
   omega
theorem BH{ae:List Term}{c:List Nat}:∀{xs ys:List Term},lA ae c xs ys=true→xs.length=ys.length∧∀(i:Nat)(h:i<xs.length)(h':i<ys.length),cl c (aH ae xs[i])=cl c (aH ae ys[i])
 | [],[],_=>⟨rfl,fun i h=>by simp at h⟩
 | [],_::_,h=>by cases h
 | _::_,[],h=>by cases h
 | x::xs,y::ys,h=>by
   simp only[lA,ai] at h
   obtain⟨i1,i2⟩:=BH h.2
   refine⟨by simp[i1],fun i h1 h2=>?_⟩
   cases i with
   | zero=>simpa[Jd] using h.1
   | succ i=>exact i2 i (by simpa using h1) (by simpa using h2)
theorem LW{ae:List Term}{c:List Nat}{a b:Nat}(h:alike ae c a b=true):0<(ae.getD a aL).kids.length∧(ae.getD a aL).name=(ae.getD b aL).name∧(ae.getD a aL).kids.length=(ae.getD b aL).kids.length ∧
 ∀(i:Nat)(h:i<(ae.getD a aL).kids.length)(h':i<(ae.getD b aL).kids.length),cl c (aH ae (ae.getD a aL).kids[i])=cl c (aH ae (ae.getD b aL).kids[i]):=by
 simp only[alike,ai,decide_eq_true_eq] at h
 obtain⟨i1,i2⟩:=BH h.2.2
 exact⟨h.1,h.2.1,i1,i2⟩
theorem LK{α β γ:Type}{f:α×β→γ}{xs:List α}{ys:List β}{i:Nat}(h:i<xs.length)(h':i<ys.length):((xs.zip ys).take (i+1)).map f=((xs.zip ys).take i).map f++[f (xs[i],ys[i])]:=by
 rw[bC,ah (by simp;omega),cP]
 simp
theorem Si{rec_:Nat→List Nat→Option (List Edge)}{af:List Step}{v n i:Nat}{dJ:List Nat}(h:i<n):uG rec_ af v dJ (dG i (n-i))=match pH af v i with
 | none=>uG rec_ af v dJ (dG (i+1) (n-(i+1)))
 | some e=>if ij af e∈dJ then uG rec_ af v dJ (dG (i+1) (n-(i+1))) else match rec_ (ij af e) (dJ++[ij af e]) with
   | none=>uG rec_ af v dJ (dG (i+1) (n-(i+1)))
   | some r=>some (e::r):=by
 rw[nX h,uG]
 all_goals rfl
def Qp(one:Edge→l9)(t:Term):List Edge→l9
 | []=>.mk 1 0 t []
 | e::es=>ox one (one e) es
theorem Ro(ae:List Term)(af:List Step)(f n a b:Nat):lf ae af (f+1) n a b=Qp (kH ae af (lf ae af f)) (ae.getD a aL) (lO ae.length af n a b):=by
 rw[lf]
 cases lO ae.length af n a b<;>rfl
theorem wP{one:Edge→l9}{t:Term}{way:List Edge}(h:0<way.length):Qp one t way=ox one (one way[0]) (way.drop 1):=by
 cases way with
 | nil=>simp at h
 | cons e es=>rfl
theorem Bk{rec_:Nat→List Nat→Option (List Edge)}{af:List Step}{v:Nat}{dJ:List Nat}:∀{l:List Nat}{r:List Edge},uG rec_ af v dJ l=some r→∃e w s r',r=e::r'∧rec_ w s=some r'
 | [],r,h=>by cases h
 | i::l,r,h=>by
   rw[uG] at h
   split at h
   ·exact Bk h
   ·split at h
    ·exact Bk h
    ·split at h
     ·exact Bk h
     ·rename_i hr
      simp only[Option.some.injEq] at h
      exact⟨_,_,_,_,h.symm,hr⟩
theorem AA{af:List Step}{n to:Nat}:∀{f v:Nat}{dJ:List Nat}{r:List Edge},tw af n to f v dJ=some r→r.length≤f
 | 0,_,_,_,h=>by cases h
 | f+1,v,dJ,r,h=>by
   rw[tw] at h
   split at h
   ·simp only[Option.some.injEq] at h
    rw[←h]
    exact bh _
   ·obtain⟨e,w,s,r',rfl,h2⟩:=Bk h
    have:=AA h2
    simp only[a8]
    omega
end Go.Mod
