/-
  What the deciding functions of chapters 3, 5 and 8 compute, in plain Lean: elimination, closures, explanations, decisions. No program is walked here.
-/
import Derived.Test.YtabembjmeobhoaaGreatKDE
set_option linter.unusedVariables false
set_option linter.unusedSimpArgs false
open Bool renaming and_eq_true→al,false_eq_true→ax,eq_false_or_eq_true→kF
open Classical renaming em→aa
open Int renaming toNat_natCast→bn,gcd→bN,natCast_nonneg→iw,tdiv_eq_ediv_of_nonneg→jM
open List renaming drop_eq_getElem_cons→ae,getElem?_eq_getElem→ah,getElem_mem→ak,mem_cons→ay,getD_eq_getElem?_getD→aA,mem_append→aP,map_cons→aQ,length_cons→a6,not_mem_nil→ba,getElem?_append_left→bf,mem_cons_of_mem→bh,append_assoc→bj,append_nil→bl,take_add_one→bq,getElem?_eq_none→br,getElem?_append_right→bt,range→bx,cons_append→bB,nil_append→bC,mem_map→bG,getElem?_eq_some_iff→bH,length_take→bU,getD→cr,nodup_cons→cI,map_append→cL,all_eq_true→c5,nodup_append→dm,mem_append_left→du,length_map→dA,map_nil→dD,range'→dN,mem_of_find?_eq_some→e9,mem_range→ff,length_range→fV,foldl_cons→gp,getElem?_cons_zero→gz,mem_flatMap→gC,map_set→kp,foldl_append→mr,reverse_append→nw,reverse_cons→o4
open Nat renaming le_refl→aJ,zero_le→bc,lt_or_ge→b6,lt_trichotomy→eQ,sub_self→kj,min_eq_left→nO
open Option renaming isSome_iff_exists→cK
namespace Go.Mod
open Go.Eng
set_option maxRecDepth 100000
def bQ(l:List Nat):List (List D):=l.map fun n:Nat=>[.val (.int .i64 (n:Int))]
theorem Sj(l:List Nat):(bQ l).length=l.length:=by simp[bQ]
theorem pn{l:List Nat}{i:Nat}(h:i<l.length):row (bQ l) i=[.val (.int .i64 (l[i]:Int))]:=by simp[bQ,row,cr,ah h]
theorem CN(l:List Nat):∀y∈bQ l,y.length=1:=by
 intro y hy
 obtain⟨t,_,rfl⟩:=bG.1 hy
 rfl
theorem lZ(a b:List Nat):bQ a++bQ b=bQ (a++b):=by simp[bQ]
theorem Sx{l:List Nat}{i n:Nat}:(bQ l).set i [.val (.int .i64 (n:Int))]=bQ (l.set i n):=by simp[bQ,kp]
attribute [go_sem] Sj pn
theorem oh{i n:Nat}(h:i<n):dN i (n-i)=i::dN (i+1) (n-(i+1)):=by
 obtain⟨k,rfl⟩:∃k,n=i+1+k:=⟨n-(i+1),by omega⟩
 have e1:i+1+k-i=k+1:=by omega
 have e2:i+1+k-(i+1)=k:=by omega
 rw[e1,e2,List.range'_succ]
theorem pM{i n:Nat}(h:n≤i):dN i (n-i)=[]:=by
 have e1:n-i=0:=by omega
 rw[e1];rfl
theorem Ra(n:Int):(whole n).N=n:=rfl
theorem Ye(n:Int):(whole n).D=1:=rfl
attribute [go_sem] Ra Ye
structure cH where
 jC:iV
 fQ:List Int
 deriving DecidableEq
def cU(r:cH):List D:=[.dt (bF r.jC.aF),.val (.int .i64 r.jC.bound),.val (.bool r.jC.strict),.dt (bF r.fQ)]
def dX(l:List cH):List (List D):=l.map cU
theorem SJ(l:List cH):(dX l).length=l.length:=by simp[dX]
theorem SQ{l:List cH}{i:Nat}(h:i<l.length):row (dX l) i=cU l[i]:=by simp[dX,row,cr,ah h]
theorem yc(a b:List cH):dX a++dX b=dX (a++b):=by simp[dX]
theorem um:dX []=[]:=rfl
theorem uZ(n:cH)(l:List cH):dX (n::l)=cU n::dX l:=rfl
attribute [go_sem] SJ SQ um cU
def bT(r:cH)(v:Nat):Int:=r.jC.aF.getD v 0
def s8(n i:Nat):List Int:=(List.replicate n 0).set i 1
def bI(ls:List iV):List cH:=(bx ls.length).map fun i=>⟨ls.getD i m8,s8 ls.length i⟩
def uX(a b:cH)(v:Nat):Int:=(bN (bT a v) (-(bT b v)):Int)
def o7(a b:cH)(v:Nat):Int:=(bT a v).tdiv (uX a b v)
def o8(a b:cH)(v:Nat):Int:=(-(bT b v)).tdiv (uX a b v)
def qw(a b:cH)(v:Nat):List Int:=comb (o8 a b v) (o7 a b v) a.fQ b.fQ
def BD(a b:cH)(v:Nat):cH:=⟨(eV a.jC (o8 a b v) b.jC (o7 a b v)).1,qw a b v⟩
def tN(a b:cH)(v:Nat):Bool:=(eV a.jC (o8 a b v) b.jC (o7 a b v)).2&&(qw a b v).all fun n=>decide (n≤1000000)
def pF(a:cH)(v:Nat)(rows:List cH):List (cH×cH):=rows.filterMap fun b=>if 0<bT a v∧bT b v<0 then some (a,b) else none
def pI(all rows:List cH)(v:Nat):List (cH×cH):=rows.flatMap fun a=>pF a v all
def mC(v:Nat):List (cH×cH)→List cH→Option (List cH)
 | [],out=>some out
 | (a,b)::ps,out=>if tN a b v=true∧out.length<200 then mC v ps (out++[BD a b v]) else none
def gY(rows:List cH)(v:Nat):Option (List cH):=mC v (pI rows rows v) (rows.filter fun r=>decide (bT r v=0))
def qR(v:Nat):Nat→List Int→List Rat→Rat→Option Rat
 | i,c::cs,x::xs,sum=>if i=v then qR v (i+1) cs xs sum else if(plus sum (-c) x).2 then qR v (i+1) cs xs (plus sum (-c) x).1 else none
 | _,_,_,sum=>some sum
def Ad(x:Rat×Bool):Option Rat:=if x.2 then some x.1 else none
def m7(l:iV)(v:Nat)(aH:List Rat):Option Rat:=
 match qR v 0 l.aF aH (whole l.bound) with
 | none=>none
 | some sum=>if(lr 1 (l.aF.getD v 0)).2 then Ad (cC sum (lr 1 (l.aF.getD v 0)).1) else none
def lower(x:Rat):Option Rat→Bool
 | none=>true
 | some h=>cY x h
def upper(x:Rat):Option Rat→Bool
 | none=>true
 | some l=>cY l x
def oN(v:Nat)(aH:List Rat):List cH→Option Rat→Option Rat→Option (Option Rat×Option Rat)
 | [],lo,hi=>some (lo,hi)
 | r::rs,lo,hi=>if bT r v=0 then oN v aH rs lo hi else match m7 r.jC v aH with
   | none=>none
   | some b=>if 0<bT r v then oN v aH rs lo (if lower b hi then some b else hi) else oN v aH rs (if upper b lo then some b else lo) hi
def kI:Option Rat→Option Rat→Rat×Bool
 | some l,some h=>qX l h
 | none,some h=>db h (whole (-1))
 | some l,none=>db l (whole 1)
 | none,none=>(whole 0,true)
def valueOf(rows:List cH)(v:Nat)(aH:List Rat):Option Rat:=
 match oN v aH rows none none with
 | none=>none
 | some e=>Ad (kI e.1 e.2)
def me:List (List cH)→Nat→List Rat→Option (List Rat)
 | [],_,aH=>some aH
 | rows::st,v,aH=>match valueOf rows v aH with
   | none=>none
   | some x=>me st (v+1) (aH.set v x)
def lf:List Int→List Rat→Rat→Option Rat
 | c::cs,x::xs,sum=>if(plus sum c x).2 then lf cs xs (plus sum c x).1 else none
 | _,_,sum=>some sum
def qx(aH:List Rat):Bool:=decide (aH.length=4)&&aH.all bX
def mi(l:iV)(aH:List Rat):Option Bool:=if eu l&&qx aH then(lf l.aF aH (whole 0)).map fun x=>below x l.bound l.strict else none
def lg(list:List iV)(aH:List Rat):Bool:=fP list&&(qx aH&&list.all fun l=>decide (mi l aH=some true))
def nU:List Rat:=[whole 0,whole 0,whole 0,whole 0]
structure Far where
 aH:List Rat
 times:List Int
 code:Int
def ik(list:List iV)(s0 s1 s2 s3 rows:List cH):Far:=
 match rows.find? fun r=>kv r.jC with
 | some r=>if sa list r.fQ then⟨[],r.fQ,1⟩ else⟨[],[],2⟩
 | none=>match me [s0,s1,s2,s3] 0 nU with
   | none=>⟨[],[],2⟩
   | some aH=>if lg list aH then⟨aH,[],0⟩ else⟨[],[],2⟩
def bL(list:List iV):Far:=
 if fP list then match gY (bI list) 3 with
  | none=>⟨[],[],2⟩
  | some r2=>match gY r2 2 with
    | none=>⟨[],[],2⟩
    | some r1=>match gY r1 1 with
      | none=>⟨[],[],2⟩
      | some r0=>match gY r0 0 with
        | none=>⟨[],[],2⟩
        | some rows=>ik list r0 r1 r2 (bI list) rows
 else⟨[],[],3⟩
def aG(af:List Term)(t:Term):Nat:=(bK af t).toNat
def cl(class_:List Nat)(i:Nat):Nat:=class_.getD i 0
def gj(class_:List Nat)(a b:Nat):List Nat:=class_.map fun k=>if k=max (cl class_ a) (cl class_ b) then min (cl class_ a) (cl class_ b) else k
def Jo(af:List Term)(class_:List Nat)(x y:Term):Bool:=decide (cl class_ (aG af x)=cl class_ (aG af y))
def ly(af:List Term)(class_:List Nat):List Term→List Term→Bool
 | [],[]=>true
 | x::xs,y::ys=>Jo af class_ x y&&ly af class_ xs ys
 | _,_=>false
def alike(af:List Term)(class_:List Nat)(a b:Nat):Bool:=
 decide (0<(af.getD a aM).kids.length)&&(decide ((af.getD a aM).name=(af.getD b aM).name)&&ly af class_ (af.getD a aM).kids (af.getD b aM).kids)
def mY(af:List Term)(class_:List Nat)(early late:Nat):Bool:=decide (cl class_ early≠cl class_ late)&&alike af class_ early late
def jA(from_ n:Nat):List (Nat×Nat):=(dN from_ (n-from_)).flatMap fun l=>(dN 0 l).map fun e=>(e,l)
def fD(af:List Term)(class_:List Nat):Option (Nat×Nat):=(jA 0 af.length).find? fun p=>mY af class_ p.1 p.2
def iZ(af:List Term):Nat→List fO→List Nat→List Step→List Nat×List Step
 | _,[],class_,aj=>(class_,aj)
 | n,e::es,class_,aj=>
   if cl class_ (aG af e.A)=cl class_ (aG af e.B) then iZ af (n+1) es class_ aj
   else iZ af (n+1) es (gj class_ (aG af e.A) (aG af e.B)) (aj++[⟨aG af e.A,aG af e.B,n⟩])
def kh(af:List Term):Nat→List Nat→List Step→List Nat×List Step
 | 0,class_,aj=>(class_,aj)
 | f+1,class_,aj=>match fD af class_ with
   | none=>(class_,aj)
   | some p=>kh af f (gj class_ p.1 p.2) (aj++[⟨p.1,p.2,-1⟩])
def given(af:List Term)(eqs:List fO):List Nat×List Step:=iZ af 0 eqs (bx af.length) []
def closed(af:List Term)(eqs:List fO):List Nat×List Step:=kh af (given af eqs).1.sum (given af eqs).1 (given af eqs).2
def aR(n:Nat)(aj:List Step)(k:Nat):List Nat:=(aj.take k).foldl (fun c s=>gj c s.A.toNat s.B.toNat) (bx n)
structure Edge where
 step:Nat
 back:Bool
 deriving DecidableEq
def ib(aj:List Step)(k:Nat):Step:=aj.getD k ⟨0,0,0⟩
def lR(n:Nat)(aj:List Step):Nat→Nat→Nat→List Edge
 | 0,_,_=>[]
 | k+1,a,b=>
   let c:=aR n aj k
   if cl c a=cl c b then lR n aj k a b
   else if cl c a=cl c (ib aj k).A.toNat then lR n aj k a (ib aj k).A.toNat++⟨k,false⟩::lR n aj k (ib aj k).B.toNat b
   else lR n aj k a (ib aj k).B.toNat++⟨k,true⟩::lR n aj k (ib aj k).A.toNat b
def kJ(af:List Term)(aj:List Step)(qk:Nat→Nat→Nat→jy)(e:Edge):jy:=
 let s:=ib aj e.step
 let w:jy:=if s.given<0 then .mk 5 0 (.mk (af.getD s.A.toNat aM).name []) (((af.getD s.A.toNat aM).kids.zip (af.getD s.B.toNat aM).kids).map fun p=>qk e.step (aG af p.1) (aG af p.2)) else .mk 2 s.given aM []
 if e.back then .mk 3 0 aM [w] else w
def oV(one:Edge→jy):jy→List Edge→jy
 | w,[]=>w
 | w,e::es=>oV one (.mk 4 0 aM [w,one e]) es
def lk(af:List Term)(aj:List Step):Nat→Nat→Nat→Nat→jy
 | 0,_,_,_=>sU
 | f+1,n,a,b=>match lR af.length aj n a b with
   | []=>.mk 1 0 (af.getD a aM) []
   | e::es=>oV (kJ af aj (lk af aj f)) (kJ af aj (lk af aj f) e) es
def l6(af:List Term)(aj:List Step)(a b:Term):jy:=lk af aj (aj.length+1) aj.length (aG af a) (aG af b)
def eY(nums:List Term)(out:List Nat)(e:fO):List Nat:=
 if bK nums e.A<0∨bK nums e.B<0 then out else out.map fun k=>if k=cl out (aG nums e.A) then cl out (aG nums e.B) else k
def j7(nums:List Term)(eqs:List fO):List Nat:=eqs.foldl (eY nums) (bx nums.length)
def linked(nums:List Term)(ab:List bm)(i k:Nat):Bool:=decide (cl (j7 nums (aZ ab)) i=cl (j7 nums (aZ ab)) k)
def eS(nums:List Term)(ab:List bm)(i k:Nat):Bool:=ab.any fun l=>!l.no&&decide (l.atom=(eE (nums.getD i aM) (nums.getD k aM)).atom)
def dJ(from_ n:Nat):List (Nat×Nat):=(dN from_ (n-from_)).flatMap fun i=>(dN (i+1) (n-(i+1))).map fun k=>(i,k)
def bW(n:Nat)(p:Nat→Nat→Bool):Option (Nat×Nat):=(dJ 0 n).find? fun q=>p q.1 q.2
def gg(aq:List Term)(class_:List Nat)(a b:Term):Bool:=decide (cl class_ (aG aq a)=cl class_ (aG aq b))
def iA(aq:List Term)(class_:List Nat)(l:bm):Bool:=l.no&&(decide (l.atom.kind=1)&&gg aq class_ l.atom.A l.atom.B)
def jQ{α:Type}(p:α→Bool)(l:List α):Option Nat:=(bx l.length).find? fun i=>match l[i]? with|none=>false|some x=>p x
def iJ(aq nums:List Term)(class_:List Nat)(aH:List Rat)(t:Term):Rat:=if bK nums t<0 then whole (cl class_ (aG aq t)) else aH.getD (aG nums t) (whole 0)
def iB(aq nums:List Term)(class_:List Nat)(aH:List Rat)(t:Term):Row:=⟨t.name,t.kids.map (iJ aq nums class_ aH),iJ aq nums class_ aH t⟩
def putRow(rows:List Row)(r:Row):List Row:=
 let lo:=rows.takeWhile fun x=>decide (fc x r<0)
 let hi:=rows.dropWhile fun x=>decide (fc x r<0)
 match hi with
 | []=>lo++[r]
 | x::xs=>if fc x r=0 then rows else lo++r::x::xs
def hJ(aq nums:List Term)(class_:List Nat)(aH:List Rat):List Row:=aq.foldl (fun rows t=>putRow rows (iB aq nums class_ aH t)) []
def ie(s:dK)(m:Model)(ab:List bm):Bool:=fh s m&&ab.all fun l=>decide (gO s m l=some true)
structure Ag where
 model:Model
 case:Case
 code:Int
def ng:Case:=.mk 0 0 sU [] aM aM []
def jo:Model:=⟨[]⟩
def ph:Ag:=⟨jo,ng,2⟩
def wW(w:jy)(r:Ag):Ag:=if r.code=1 then⟨jo,.mk 3 0 w [] aM aM [r.case],1⟩ else⟨r.model,ng,r.code⟩
def mj(run:List bm→Ag)(a b:Term):List (List bm)→List Case→Ag
 | [],out=>⟨jo,.mk 4 0 sU [] a b out,1⟩
 | l::ls,out=>if(run l).code=1 then mj run a b ls (out++[(run l).case]) else⟨(run l).model,ng,(run l).code⟩
def fW(s:dK)(aq nums:List Term):Nat→List bm→Ag
 | 0,_=>ph
 | f+1,ab=>
   let eqs:=aZ ab
   let c:=closed aq eqs
   let Ju:=bL (dF nums ab)
   if 12<eqs.length then ph else
   match jQ (iA aq c.1) ab with
   | some n=>⟨jo,.mk 1 n (l6 aq c.2 (ab.getD n ED).atom.A (ab.getD n ED).atom.B) [] aM aM [],1⟩
   | none=>
     if Ju.code=1 then⟨jo,.mk 2 0 sU Ju.times aM aM [],1⟩ else
     if Ju.code≠0 then ph else
     match bW nums.length (fun i k=>!linked nums ab i k&&gg aq c.1 (nums.getD i aM) (nums.getD k aM)) with
     | some (i,k)=>wW (l6 aq c.2 (nums.getD i aM) (nums.getD k aM)) (fW s aq nums f (ab++[hU (nums.getD i aM) (nums.getD k aM)]))
     | none=>match bW nums.length (fun i k=>!linked nums ab i k&&(!eS nums ab i k&& !eS nums ab k i)) with
       | some (i,k)=>mj (fW s aq nums f) (nums.getD i aM) (nums.getD k aM) ((fS (nums.getD i aM) (nums.getD k aM)).map fun l=>ab++[l]) []
       | none=>if ie s ⟨hJ aq nums c.1 Ju.aH⟩ ab then⟨⟨hJ aq nums c.1 Ju.aH⟩,ng,0⟩ else ph
def dL(s:dK)(ab:List bm):Ag:=if fe s ab then fW s (aw ab) (numsOf s ab) 13 ab else⟨jo,ng,3⟩
theorem gX{c:List Nat}{i:Nat}(h:i<c.length):cl c i=c[i]:=by rw[cl,aA,ah h];rfl
theorem Ai{c:List Nat}{i:Nat}(h:i<c.length):cl c i∈c:=by rw[gX h];exact ak h
theorem Y0{c:List Nat}{i:Nat}(h:c.length≤i):cl c i=0:=by rw[cl,aA,br h];rfl
theorem fK(c:List Nat)(a b:Nat):(gj c a b).length=c.length:=by simp[gj]
theorem vN{c:List Nat}{f:Nat→Nat}{i:Nat}(h:i<c.length):cl (c.map f) i=f (cl c i):=by
 rw[gX (by simpa using h),gX h,List.getElem_map]
theorem xq{c:List Nat}{a b i:Nat}(h:i<c.length):cl (gj c a b) i=if cl c i=max (cl c a) (cl c b) then min (cl c a) (cl c b) else cl c i:=vN h
theorem C8{c:List Nat}{a b i k:Nat}(hi:i<c.length)(hk:k<c.length):cl (gj c a b) i=cl (gj c a b) k↔(cl c i=cl c k∨(cl c i=cl c a∧cl c k=cl c b)∨(cl c i=cl c b∧cl c k=cl c a)):=by
 rw[xq hi,xq hk]
 split<;>split<;>omega
theorem WS{f:Nat→Nat}(hf:∀x,f x≤x):∀l:List Nat,(l.map f).sum≤l.sum
 | []=>aJ _
 | x::l=>by
   have:=WS hf l
   have:=hf x
   simp only[aQ,List.sum_cons]
   omega
theorem Wm{f:Nat→Nat}(hf:∀x,f x≤x):∀{l:List Nat}{x:Nat},x∈l→f x<x→(l.map f).sum<l.sum
 | y::l,x,hx,h=>by
   simp only[aQ,List.sum_cons]
   have h1:=WS hf l
   have h2:=hf y
   rcases ay.1 hx with e|e
   ·subst e;omega
   ·have:=Wm hf e h
    omega
theorem J4{c:List Nat}{a b:Nat}(ha:a<c.length)(hb:b<c.length)(h:cl c a≠cl c b):(gj c a b).sum<c.sum:=by
 refine Wm (x:=max (cl c a) (cl c b)) (fun x=>?_) ?_ ?_
 ·split<;>omega
 ·rcases Nat.le_total (cl c a) (cl c b) with h1|h1
  ·rw[Nat.max_eq_right h1];exact Ai hb
  ·rw[Nat.max_eq_left h1];exact Ai ha
 ·rw[if_pos rfl];omega
theorem zI{s n:Nat}{p:Nat×Nat}:p∈jA s n↔p.1<p.2∧s≤p.2∧p.2<n:=by
 obtain⟨e,l⟩:=p
 simp only[jA,gC,bG,List.mem_range'_1,Prod.mk.injEq]
 constructor
 ·rintro⟨l',h1,e',h2,rfl,rfl⟩;omega
 ·rintro⟨h1,h2,h3⟩
  exact⟨l,by omega,e,by omega,rfl,rfl⟩
theorem Fw{l n:Nat}(h:l<n):jA l n=(dN 0 (l-0)).map (fun e=>(e,l))++jA (l+1) n:=by
 unfold jA
 rw[oh h]
 rfl
theorem zq{l n:Nat}(h:n≤l):jA l n=[]:=by
 unfold jA
 rw[pM h]
 rfl
theorem qb{af:List Term}{c:List Nat}{p:Nat×Nat}(h:fD af c=some p):p.1<p.2∧p.2<af.length∧cl c p.1≠cl c p.2∧alike af c p.1 p.2=true:=by
 have h1:=List.find?_some h
 have h2:=zI.1 (e9 h)
 simp only[mY,al,decide_eq_true_eq] at h1
 exact⟨h2.1,h2.2.2,h1.1,h1.2⟩
theorem V9{x:Nat}:∀{l:List Nat},x∈l→x≤l.sum
 | y::l,h=>by
   simp only[List.sum_cons]
   rcases ay.1 h with e|e
   ·omega
   ·have:=V9 e;omega
theorem vr{af:List Term}{f:Nat}{c:List Nat}{aj:List Step}(h:fD af c=none):kh af f c aj=(c,aj):=by
 cases f with
 | zero=>rfl
 | succ f=>simp only[kh,h]
theorem vW{af:List Term}{f:Nat}{c:List Nat}{aj:List Step}{p:Nat×Nat}(hs:c.sum≤f)(hc:c.length=af.length)(h:fD af c=some p) :
 ∃f',f=f'+1∧kh af f c aj=kh af f' (gj c p.1 p.2) (aj++[⟨p.1,p.2,-1⟩])∧(gj c p.1 p.2).sum≤f':=by
 obtain⟨h1,h2,h3,h4⟩:=qb h
 have hd:=J4 (c:=c) (a:=p.1) (b:=p.2) (by omega) (by omega) h3
 obtain⟨f',rfl⟩:∃f',f=f'+1:=⟨f-1,by omega⟩
 exact⟨f',rfl,by simp only[kh,h],by omega⟩
structure L9(af:List Term)(eqs:List fO)(c:List Nat)(s:Step):Prop where
 a0:0≤s.A
 a1:s.A.toNat<af.length
 b0:0≤s.B
 b1:s.B.toNat<af.length
 ne:cl c s.A.toNat≠cl c s.B.toNat
 XW:(s.given = -1∧alike af c s.A.toNat s.B.toNat=true)∨(∃n:Nat,s.given=n∧∃e,eqs[n]?=some e∧s.A=aG af e.A∧s.B=aG af e.B)
def lz(af:List Term)(eqs:List fO)(aj:List Step):Prop:=∀k s,aj[k]?=some s→L9 af eqs (aR af.length aj k) s
theorem tO{n k:Nat}{aj more:List Step}(h:k≤aj.length):aR n (aj++more) k=aR n aj k:=by
 rw[aR,aR,List.take_append_of_le_length h]
theorem iC(n:Nat)(aj:List Step)(k:Nat):(aR n aj k).length=n:=by
 unfold aR
 have:∀(l:List Step)(c:List Nat),(l.foldl (fun c s=>gj c s.A.toNat s.B.toNat) c).length=c.length:=by
  intro l
  induction l with
  | nil=>intro c;rfl
  | cons s l ih=>intro c;rw[gp,ih,fK]
 rw[this,fV]
theorem rL{n k:Nat}{aj:List Step}{s:Step}(h:aj[k]?=some s):aR n aj (k+1)=gj (aR n aj k) s.A.toNat s.B.toNat:=by
 obtain⟨hk,rfl⟩:=bH.1 h
 rw[aR,bq,ah hk,mr]
 rfl
theorem KU{af:List Term}{eqs:List fO}{aj:List Step}{s:Step}(h:lz af eqs aj)(hs:L9 af eqs (aR af.length aj aj.length) s):lz af eqs (aj++[s]):=by
 intro k t ht
 rcases eQ k aj.length with h1|h1|h1
 ·rw[bf h1] at ht
  rw[tO (by omega)]
  exact h k t ht
 ·subst h1
  rw[bt (aJ _)] at ht
  simp only[kj,gz,Option.some.injEq] at ht
  rw[tO (aJ _),←ht]
  exact hs
 ·rw[br (by simp;omega)] at ht
  cases ht
theorem Gd{n:Nat}{aj:List Step}{s:Step}:aR n (aj++[s]) (aj++[s]).length=gj (aR n aj aj.length) s.A.toNat s.B.toNat:=by
 rw[List.length_append,List.length_singleton,rL (s:=s) (by simp),tO (aJ _)]
def Kept(af:List Term)(eqs:List fO)(x:List Nat×List Step):Prop:=lz af eqs x.2∧x.1=aR af.length x.2 x.2.length
theorem Nb{af:List Term}{eqs:List fO}{x:List Nat×List Step}(h:Kept af eqs x):x.1.length=af.length:=by rw[h.2,iC]
theorem JI{af:List Term}{eqs:List fO}{x:List Nat×List Step}{s:Step}(h:Kept af eqs x)(hs:L9 af eqs x.1 s):Kept af eqs (gj x.1 s.A.toNat s.B.toNat,x.2++[s]):=
 ⟨KU h.1 (h.2▸hs),by rw[Gd,←h.2]⟩
theorem u6{af:List Term}{all:List fO}(kG:∀e∈all,e.A∈af∧e.B∈af):∀(eqs:List fO)(n:Nat)(c:List Nat)(aj:List Step),all.drop n=eqs→Kept af all (c,aj)→Kept af all (iZ af n eqs c aj)
 | [],_,_,_,_,h=>h
 | e::es,n,c,aj,hd,h=>by
   have hn:all[n]?=some e:=by
    have:=congrArg (·[0]?) hd
    simpa using this
   have hd2:all.drop (n+1)=es:=by
    have:=congrArg List.tail hd
    simpa[List.tail_drop] using this
   obtain⟨hA,hB⟩:=kG e (List.mem_of_getElem? hn)
   rw[iZ]
   split
   ·exact u6 kG es (n+1) c aj hd2 h
   ·rename_i jJ
    exact u6 kG es (n+1) _ _ hd2 (JI (s:=⟨aG af e.A,aG af e.B,n⟩) h ⟨iw _,by rw[bn];exact nQ hA,iw _,by rw[bn];exact nQ hB,by simpa using jJ,.inr ⟨n,rfl,e,hn,rfl,rfl⟩⟩)
theorem BX{af:List Term}{all:List fO}:∀(f:Nat)(c:List Nat)(aj:List Step),Kept af all (c,aj)→Kept af all (kh af f c aj)
 | 0,_,_,h=>h
 | f+1,c,aj,h=>by
   rw[kh]
   split
   ·exact h
   ·rename_i p hp
    obtain⟨h1,h2,h3,h4⟩:=qb hp
    exact BX f _ _ (JI (s:=⟨p.1,p.2,-1⟩) h ⟨iw _,by simp;omega,iw _,by simpa using h2,by simpa using h3,.inl ⟨rfl,by simpa using h4⟩⟩)
theorem Q3{af:List Term}{eqs:List fO}(kG:∀e∈eqs,e.A∈af∧e.B∈af):Kept af eqs (given af eqs):=
 u6 kG eqs 0 _ _ rfl ⟨fun k s h=>by simp at h,rfl⟩
theorem mO{af:List Term}{eqs:List fO}(kG:∀e∈eqs,e.A∈af∧e.B∈af):Kept af eqs (closed af eqs):=BX _ _ _ (Q3 kG)
theorem u9{af:List Term}{eqs:List fO}{x:List Nat×List Step}(h:Kept af eqs x):∀k,k≤x.2.length→(aR af.length x.2 k).sum+k≤(bx af.length).sum:=by
 intro k
 induction k with
 | zero=>intro _;exact Nat.le_of_eq (by simp[aR])
 | succ k ih=>
   intro hk
   have hs:x.2[k]?=some x.2[k]:=ah (by omega)
   have h1:=ih (by omega)
   have h2:=h.1 k _ hs
   have h3:=J4 (c:=aR af.length x.2 k) (by rw[iC];exact h2.a1) (by rw[iC];exact h2.b1) h2.ne
   rw[rL hs]
   omega
def vA(aj:List Step)(k:Nat):Nat:=(ib aj k).A.toNat
def vB(aj:List Step)(k:Nat):Nat:=(ib aj k).B.toNat
def gF(aj:List Step)(e:Edge):Nat:=if e.back then vB aj e.step else vA aj e.step
def ij(aj:List Step)(e:Edge):Nat:=if e.back then vA aj e.step else vB aj e.step
def pD(aj:List Step):Nat→List Edge→Nat→Prop
 | a,[],b=>a=b
 | a,e::es,b=>gF aj e=a∧pD aj (ij aj e) es b
def oU(k:Nat)(es:List Edge):Prop:=∀e∈es,e.step<k
def gL(aj:List Step)(a:Nat)(es:List Edge):List Nat:=a::es.map (ij aj)
theorem x7{aj:List Step}:∀{p q:List Edge}{a b:Nat},pD aj a (p++q) b↔∃m,pD aj a p m∧pD aj m q b
 | [],q,a,b=>by simp[pD]
 | e::p,q,a,b=>by
   simp only[bB,pD,x7 (p:=p)]
   constructor
   ·rintro⟨h1,m,h2,h3⟩;exact⟨m,⟨h1,h2⟩,h3⟩
   ·rintro⟨m,⟨h1,h2⟩,h3⟩;exact⟨h1,m,h2,h3⟩
theorem GR{aj:List Step}:∀{p:List Edge}{a b:Nat},pD aj a p b→b∈gL aj a p
 | [],a,b,h=>by simp[pD] at h;simp[gL,h]
 | e::p,a,b,h=>by
   have:=GR h.2
   simp only[gL,aQ,ay] at this⊢
   exact .inr this
section
variable{af:List Term}{eqs:List fO}{aj:List Step}(eW:lz af eqs aj)
include eW
theorem oL{k:Nat}(h:k<aj.length):L9 af eqs (aR af.length aj k) (ib aj k):=by
 have e:=ah h
 have:=eW k _ e
 rw[ib,aA,e]
 exact this
theorem Hc{k:Nat}(h:k<aj.length):vA aj k<af.length:=(oL eW h).a1
theorem F0{k:Nat}(h:k<aj.length):vB aj k<af.length:=(oL eW h).b1
omit eW in
theorem R0{k:Nat}(h:k<aj.length):aR af.length aj (k+1)=gj (aR af.length aj k) (vA aj k) (vB aj k):=by
 rw[rL (ah h),vA,vB,ib,aA,ah h]
 rfl
omit eW in
theorem Pq{k i j:Nat}(h:k<aj.length)(hi:i<af.length)(hj:j<af.length):cl (aR af.length aj (k+1)) i=cl (aR af.length aj (k+1)) j ↔
 (cl (aR af.length aj k) i=cl (aR af.length aj k) j∨(cl (aR af.length aj k) i=cl (aR af.length aj k) (vA aj k)∧cl (aR af.length aj k) j=cl (aR af.length aj k) (vB aj k))∨(cl (aR af.length aj k) i=cl (aR af.length aj k) (vB aj k)∧cl (aR af.length aj k) j=cl (aR af.length aj k) (vA aj k))):=by
 rw[R0 h]
 exact C8 (by rw[iC];exact hi) (by rw[iC];exact hj)
theorem Ja:∀{k:Nat},k≤aj.length→∀{j:Nat},j<k→cl (aR af.length aj k) (vA aj j)=cl (aR af.length aj k) (vB aj j)
 | 0,_,j,h=>by omega
 | k+1,hk,j,h=>by
   rw[Pq (by omega) (Hc eW (by omega)) (F0 eW (by omega))]
   rcases b6 j k with h1|h1
   ·exact .inl (Ja (by omega) h1)
   ·obtain rfl:j=k:=by omega
    exact .inr (.inl ⟨rfl,rfl⟩)
theorem yp{e:Edge}(h:e.step<aj.length):ij aj e<af.length:=by
 unfold ij
 split
 ·exact Hc eW h
 ·exact F0 eW h
theorem CG{k:Nat}(hk:k≤aj.length){e:Edge}(h:e.step<k):cl (aR af.length aj k) (gF aj e)=cl (aR af.length aj k) (ij aj e):=by
 have:=Ja eW hk h
 unfold gF ij
 cases e.back
 ·simpa using this
 ·simpa using this.symm
theorem yl{k:Nat}(hk:k≤aj.length):∀{es:List Edge}{a b:Nat},oU k es→pD aj a es b→cl (aR af.length aj k) a=cl (aR af.length aj k) b
 | [],a,b,_,h=>by simp only[pD] at h;rw[h]
 | e::es,a,b,hw,h=>by
   rw[←h.1,CG eW hk (hw e (by simp))]
   exact yl hk (fun x hx=>hw x (bh _ hx)) h.2
theorem Mb{k:Nat}(hk:k≤aj.length):∀{es:List Edge}{a b:Nat},oU k es→pD aj a es b→a<af.length→b<af.length
 | [],a,b,_,h,ha=>by simp only[pD] at h;omega
 | e::es,a,b,hw,h,ha=>Mb hk (fun x hx=>hw x (bh _ hx)) h.2 (yp eW (by have:=hw e (by simp);omega))
theorem pG{k:Nat}(hk:k≤aj.length):∀{es:List Edge}{a b:Nat},oU k es→pD aj a es b→∀v∈gL aj a es,cl (aR af.length aj k) v=cl (aR af.length aj k) a
 | [],a,b,_,h,v,hv=>by simp[gL] at hv;rw[hv]
 | e::es,a,b,hw,h,v,hv=>by
   simp only[gL,aQ,ay] at hv
   rcases hv with e1|hv
   ·rw[e1]
   ·rw[pG hk (fun x hx=>hw x (bh _ hx)) h.2 v (by simpa[gL] using hv),←h.1]
    exact(CG eW hk (hw e (by simp))).symm
theorem r9:∀{k:Nat},k≤aj.length→∀{es:List Edge}{a b:Nat},a<af.length→oU k es→pD aj a es b→(gL aj a es).Nodup→es=lR af.length aj k a b
 | 0,_,es,a,b,_,hw,h,_=>by
   cases es with
   | nil=>rfl
   | cons e es=>exact absurd (hw e (by simp)) (by omega)
 | k+1,hk,es,a,b,ha,hw,h,hn=>by
   have hk':k≤aj.length:=by omega
   have hb:=Mb eW hk hw h ha
   rcases aa (oU k es) with kG|kG
   ·have hs:=yl eW hk' kG h
    rw[lR,if_pos hs]
    exact r9 hk' ha kG h hn
   ·-- the first edge of the last step
    have hsplit:∃p e q,es=p++e::q∧oU k p∧e.step=k:=by
     clear h hn hb
     induction es with
     | nil=>exact absurd (fun e he=>by simp at he) kG
     | cons e es ih=>
       have he:=hw e (by simp)
       rcases b6 e.step k with h1|h1
       ·obtain⟨p,x,q,e1,e2,e3⟩:=ih (fun x hx=>hw x (bh _ hx)) (fun hin2=>kG fun x hx=>by
         rcases ay.1 hx with e4|e4
         ·rw[e4];exact h1
         ·exact hin2 x e4)
        refine⟨e::p,x,q,by rw[e1];rfl,fun y hy=>?_,e3⟩
        rcases ay.1 hy with e4|e4
        ·rw[e4];exact h1
        ·exact e2 y e4
       ·exact⟨[],e,es,rfl,fun x hx=>by simp at hx,by omega⟩
    obtain⟨p,e,q,rfl,hp,hek⟩:=hsplit
    obtain⟨m,w1,w2⟩:=x7.1 h
    obtain⟨w3,w4⟩:=w2
    subst w3
    have hve:gL aj a (p++e::q)=gL aj a p++gL aj (ij aj e) q:=by simp[gL]
    rw[hve] at hn
    obtain⟨n1,n2,n3⟩:=dm.1 hn
    have hq:oU k q:=by
     intro x hx
     have hx1:=hw x (by simp[hx])
     rcases b6 x.step k with h1|h1
     ·exact h1
     ·exfalso
      have hxk:x.step=k:=by omega
      obtain⟨q1,q2,rfl⟩:=List.append_of_mem hx
      obtain⟨m2,u1,u2⟩:=x7.1 w4
      obtain⟨u3,u4⟩:=u2
      have hs1:gF aj e∈gL aj a p:=GR w1
      have jJ:ij aj x≠ij aj e:=by
       intro he
       have:(ij aj e::(q1.map (ij aj)++ij aj x::q2.map (ij aj))).Nodup:=by simpa[gL] using n2
       have:=(cI.1 this).1
       exact this (by simp[he])
      have hne2:ij aj x≠gF aj e:=by
       intro he
       exact n3 _ hs1 _ (by simp[gL]:ij aj x∈gL aj (ij aj e) (q1++x::q2)) he.symm
      unfold ij at jJ hne2
      unfold gF at hne2
      rw[hxk,hek] at jJ hne2
      cases h5:x.back<;>cases h6:e.back<;>simp[h5,h6] at jJ hne2
    have lL:gF aj e<af.length:=Mb eW hk' hp w1 ha
    have hlt2:ij aj e<af.length:=yp eW (by omega)
    have hok2:=(oL eW (k:=k) (by omega)).ne
    have i1:=r9 hk' ha hp w1 n1
    have i2:=r9 hk' hlt2 hq w4 n2
    have s1:=yl eW hk' hp w1
    have s2:=yl eW hk' hq w4
    rw[lR]
    unfold gF at i1 s1
    unfold ij at i2 s2
    rw[hek] at i1 i2 s1 s2
    obtain⟨st,bk⟩:=e
    simp only at hek
    subst hek
    cases bk
    ·simp only[ax,if_false,vA,vB] at i1 i2 s1 s2
     rw[if_neg (by rw[s1,←s2];exact hok2),if_pos s1,←i1,←i2]
    ·simp only[if_true,vA,vB] at i1 i2 s1 s2
     rw[if_neg (by rw[s1,←s2];exact fun h=>hok2 h.symm),if_neg (by rw[s1];exact fun h=>hok2 h.symm),←i1,←i2]
theorem rD:∀{k:Nat},k≤aj.length→∀{a b:Nat},a<af.length→b<af.length→cl (aR af.length aj k) a=cl (aR af.length aj k) b →
 oU k (lR af.length aj k a b)∧pD aj a (lR af.length aj k a b) b∧(gL aj a (lR af.length aj k a b)).Nodup
 | 0,_,a,b,ha,hb,h=>by
   have e:∀i,i<af.length→cl (aR af.length aj 0) i=i:=fun i hi=>by
    rw[gX (by rw[iC];exact hi)]
    simp[aR]
   rw[e a ha,e b hb] at h
   subst h
   exact⟨fun x hx=>by simp[lR] at hx,rfl,by simp[lR,gL]⟩
 | k+1,hk,a,b,ha,hb,h=>by
   have hk':k≤aj.length:=by omega
   have up:∀{es:List Edge},oU k es→oU (k+1) es:=fun hw e he=>Nat.lt_succ_of_lt (hw e he)
   rw[Pq (by omega) ha hb] at h
   have hA:=Hc eW (k:=k) (by omega)
   have hB:=F0 eW (k:=k) (by omega)
   have jJ:=(oL eW (k:=k) (by omega)).ne
   rw[lR]
   rcases aa (cl (aR af.length aj k) a=cl (aR af.length aj k) b) with h1|h1
   ·rw[if_pos h1]
    obtain⟨i1,i2,i3⟩:=rD hk' ha hb h1
    exact⟨up i1,i2,i3⟩
   ·rw[if_neg h1]
    rcases h with h|⟨h,h'⟩|⟨h,h'⟩
    ·exact(h1 h).elim
    ·rw[if_pos (show _=cl _ (ib aj k).A.toNat from h)]
     obtain⟨i1,i2,i3⟩:=rD hk' ha hA h
     obtain⟨j1,j2,j3⟩:=rD hk' hB hb h'.symm
     refine⟨?_,x7.2 ⟨_,i2,rfl,j2⟩,?_⟩
     ·intro x hx
      rcases aP.1 hx with e|e
      ·exact up i1 x e
      ·rcases ay.1 e with e|e
       ·rw[e];exact Nat.lt_succ_self k
       ·exact up j1 x e
     ·have hve:gL aj a (lR af.length aj k a (vA aj k)++⟨k,false⟩::lR af.length aj k (vB aj k) b)=gL aj a (lR af.length aj k a (vA aj k))++gL aj (vB aj k) (lR af.length aj k (vB aj k) b):=by simp[gL,ij]
      refine hve▸dm.2 ⟨i3,j3,fun x hx y hy e=>?_⟩
      have s1:=pG eW hk' i1 i2 x hx
      have s2:=pG eW hk' j1 j2 y hy
      rw[←e,s1] at s2
      exact jJ (h.symm.trans s2)
    ·have h2:¬cl (aR af.length aj k) a=cl (aR af.length aj k) (ib aj k).A.toNat:=fun h3=>jJ (h3.symm.trans h)
     rw[if_neg h2]
     obtain⟨i1,i2,i3⟩:=rD hk' ha hB h
     obtain⟨j1,j2,j3⟩:=rD hk' hA hb h'.symm
     refine⟨?_,x7.2 ⟨_,i2,rfl,j2⟩,?_⟩
     ·intro x hx
      rcases aP.1 hx with e|e
      ·exact up i1 x e
      ·rcases ay.1 e with e|e
       ·rw[e];exact Nat.lt_succ_self k
       ·exact up j1 x e
     ·have hve:gL aj a (lR af.length aj k a (vB aj k)++⟨k,true⟩::lR af.length aj k (vA aj k) b)=gL aj a (lR af.length aj k a (vB aj k))++gL aj (vA aj k) (lR af.length aj k (vA aj k) b):=by simp[gL,ij]
      refine hve▸dm.2 ⟨i3,j3,fun x hx y hy e=>?_⟩
      have s1:=pG eW hk' i1 i2 x hx
      have s2:=pG eW hk' j1 j2 y hy
      rw[←e,s1] at s2
      exact h2 s2
end
def iO(ct:List (Nat×Edge)):List Nat:=ct.map Prod.fst
structure Zw(N:Nat)(aj:List Step)(n from_:Nat)(ct:List (Nat×Edge)):Prop where
 head:(iO ct)[0]?=some from_
 W5:(iO ct).Nodup
 lt:∀v∈iO ct,v<N
 by_:∀(j:Nat)(v:Nat)(e:Edge),ct[j]?=some (v,e)→0<j→e.step<n∧ij aj e=v∧∃i,i<j∧(iO ct)[i]?=some (gF aj e)
def Seen(aj:List Step)(n:Nat)(ct:List (Nat×Edge))(v:Nat):Prop:=∀k,k<n→(vA aj k=v→vB aj k∈iO ct)∧(vB aj k=v→vA aj k∈iO ct)
def vo(aj:List Step)(n:Nat)(ct:List (Nat×Edge))(i:Nat):Prop:=∀j v,j<i→(iO ct)[j]?=some v→Seen aj n ct v
theorem kd{N:Nat}:∀{l:List Nat},l.Nodup→(∀v∈l,v<N)→l.length≤N:=by
 intro l h1 h2
 have:=(List.nodup_range (n:=N))
 have hs:l.length≤(bx N).length:=List.Nodup.length_le_of_subset h1 fun v hv=>ff.2 (h2 v hv)
 simpa using hs
theorem uO(ct:List (Nat×Edge)):(iO ct).length=ct.length:=by simp[iO]
theorem jH(a b:List (Nat×Edge)):iO (a++b)=iO a++iO b:=by simp[iO]
theorem RL{N:Nat}{aj:List Step}{n f:Nat}{ct:List (Nat×Edge)}(h:Zw N aj n f ct):ct.length≤N:=by
 rw[←uO]
 exact kd h.W5 h.lt
theorem Sc{N:Nat}{aj:List Step}{n f:Nat}(hf:f<N)(e:Edge):Zw N aj n f [(f,e)]:=
 ⟨rfl,by simp[iO],fun v hv=>by simp[iO] at hv;omega,fun j v e h hj=>by
  cases j with
  | zero=>omega
  | succ j=>simp at h⟩
theorem RF{N:Nat}{aj:List Step}{n f:Nat}{ct:List (Nat×Edge)}(h:Zw N aj n f ct){e:Edge}{i v:Nat}(he:e.step<n)(hi:(iO ct)[i]?=some v)(hs:gF aj e=v)(hn:ij aj e∉iO ct)(lL:ij aj e<N) :
 Zw N aj n f (ct++[(ij aj e,e)]):=by
 have hl:=uO ct
 have hi2:i<ct.length:=by rw[←hl];exact(bH.1 hi).1
 refine⟨?_,?_,?_,?_⟩
 ·rw[jH,bf (by omega)];exact h.head
 ·rw[jH]
  refine dm.2 ⟨h.W5,by simp[iO],fun x hx y hy e1=>?_⟩
  simp only[iO,aQ,dD,ay,ba,or_false] at hy
  rw[e1,hy] at hx
  exact hn hx
 ·intro x hx
  rw[jH] at hx
  rcases aP.1 hx with hx|hx
  ·exact h.lt x hx
  ·simp only[iO,aQ,dD,ay,ba,or_false] at hx
   omega
 ·intro j w x hx hj
  rcases eQ j ct.length with h1|h1|h1
  ·rw[bf h1] at hx
   obtain⟨a1,a2,k,a3,a4⟩:=h.by_ j w x hx hj
   exact⟨a1,a2,k,a3,by rw[jH,bf (by omega)];exact a4⟩
  ·subst h1
   rw[bt (aJ _)] at hx
   simp only[kj,gz,Option.some.injEq,Prod.mk.injEq] at hx
   obtain⟨rfl,rfl⟩:=hx
   exact⟨he,rfl,i,hi2,by rw[jH,bf (by omega),hi,hs]⟩
  ·rw[br (by simp;omega)] at hx
   cases hx
theorem JB{aj:List Step}{n:Nat}{a b:List (Nat×Edge)}{v:Nat}(h:Seen aj n a v):Seen aj n (a++b) v:=fun k hk=>by
 rw[jH]
 exact⟨fun e=>du _ ((h k hk).1 e),fun e=>du _ ((h k hk).2 e)⟩
theorem Be{aj:List Step}{n:Nat}{a b:List (Nat×Edge)}{i:Nat}(hi:i≤a.length)(h:vo aj n a i):vo aj n (a++b) i:=fun j v hj hv=>by
 rw[jH,bf (by rw[uO];omega)] at hv
 exact JB (h j v hj hv)
theorem LS{aj:List Step}{n:Nat}{ct:List (Nat×Edge)}{i v:Nat}(h:vo aj n ct i)(hv:(iO ct)[i]?=some v)(hs:Seen aj n ct v):vo aj n ct (i+1):=fun j w hj hw=>by
 rcases b6 j i with h1|h1
 ·exact h j w h1 hw
 ·obtain rfl:j=i:=by omega
  rw[hv] at hw
  obtain rfl:=Option.some.inj hw
  exact hs
theorem Cb{aj:List Step}{n:Nat}{ct:List (Nat×Edge)}(h:vo aj n ct ct.length):∀{es:List Edge}{a b:Nat},oU n es→pD aj a es b→a∈iO ct→b∈iO ct
 | [],a,b,_,hw,ha=>by simp only[pD] at hw;rw[←hw];exact ha
 | e::es,a,b,hi,hw,ha=>by
   obtain⟨j,hj,hj2⟩:=List.mem_iff_getElem.1 ha
   have hs:=h j a (by rw[←uO];exact hj) (by rw[ah hj,hj2])
   have he:=hi e (by simp)
   refine Cb h (fun x hx=>hi x (bh _ hx)) hw.2 ?_
   have h1:=hw.1
   unfold gF at h1
   unfold ij
   cases hb:e.back
   ·rw[hb] at h1
    simp only[ax,if_false] at h1⊢
    exact(hs e.step he).1 h1
   ·rw[hb] at h1
    simp only[if_true] at h1⊢
    exact(hs e.step he).2 h1
structure Us(aj:List Step)(n to:Nat)(ct:List (Nat×Edge))(j t:Nat)(out:List Edge):Prop where
 at_:(iO ct)[j]?=some t
 in_:oU n out.reverse
 walk:pD aj t out.reverse to
 W5:(gL aj t out.reverse).Nodup
 Ju:∀w∈out.reverse.map (ij aj),∃i,j<i∧(iO ct)[i]?=some w
theorem O4{aj:List Step}{n to:Nat}{ct:List (Nat×Edge)}{j:Nat}(h:(iO ct)[j]?=some to):Us aj n to ct j to []:=
 ⟨h,fun e he=>by simp at he,rfl,by simp[gL],fun w hw=>by simp at hw⟩
theorem Wi{l:List Nat}(h:l.Nodup){i j v:Nat}(hi:l[i]?=some v)(hj:l[j]?=some v):i=j:=by
 obtain⟨h1,h2⟩:=bH.1 hi
 obtain⟨h3,h4⟩:=bH.1 hj
 exact(List.getElem_inj h).1 (h2.trans h4.symm)
theorem SR{N:Nat}{aj:List Step}{n f to:Nat}{ct:List (Nat×Edge)}{j t:Nat}{out:List Edge}{e:Edge}(hm:Zw N aj n f ct)(h:Us aj n to ct j t out)(he:ct[j]?=some (t,e))(hj:0<j) :
 ∃i,i<j∧Us aj n to ct i (gF aj e) (out++[e]):=by
 obtain⟨h1,h2,i,h3,h4⟩:=hm.by_ j t e he hj
 have Ju:∀w∈(out++[e]).reverse.map (ij aj),∃k,i<k∧(iO ct)[k]?=some w:=by
  intro w hw
  simp only[nw,o4,List.reverse_nil,bC,bB,aQ,ay] at hw
  rcases hw with e1|hw
  ·exact⟨j,h3,by rw[e1,h2];exact h.at_⟩
  ·obtain⟨k,k1,k2⟩:=h.Ju w hw
   exact⟨k,by omega,k2⟩
 refine⟨i,h3,h4,?_,?_,?_,Ju⟩
 ·intro x hx
  simp only[nw,o4,List.reverse_nil,bC,bB,ay] at hx
  rcases hx with e1|hx
  ·rw[e1];exact h1
  ·exact h.in_ x hx
 ·simp only[nw,o4,List.reverse_nil,bC,bB,pD,true_and]
  rw[h2]
  exact h.walk
 ·refine cI.2 ⟨fun hmem=>?_,?_⟩
  ·obtain⟨k,k1,k2⟩:=Ju _ hmem
   have:=Wi hm.W5 h4 k2
   omega
  ·have:=h.W5
   simp only[nw,o4,List.reverse_nil,bC,bB,aQ]
   rw[h2]
   exact this
theorem Vl{af:List Term}{eqs:List fO}{aj:List Step}{n f to:Nat}{ct:List (Nat×Edge)}{j:Nat}{out:List Edge}(eW:lz af eqs aj)(hn:n≤aj.length)(hf:f<af.length)(h:Us aj n to ct j f out):out.reverse=lR af.length aj n f to:=
 r9 eW hn hf h.in_ h.walk h.W5
theorem mQ{α:Type}{l:List α}{i:Nat}{d:α}(h:i<l.length):l.getD i d∈l:=by
 rw[aA,ah h]
 exact ak h
theorem getD_at{α:Type}{l:List α}{i:Nat}{d:α}(h:i<l.length):l.getD i d=l[i]:=by
 rw[aA,ah h]
 rfl
structure HU(n:Nat)(r:cH):Prop where
 jC:eu r.jC=true
 len:r.fQ.length=n
 bd:∀u∈r.fQ,0≤u∧u≤1000000
def xZ(n:Nat)(rows:List cH):Prop:=rows.length≤200∧∀r∈rows,HU n r
theorem HU.SX{n:Nat}{r:cH}(h:HU n r)(v:Nat):-1000000≤bT r v∧bT r v≤1000000:=by
 obtain⟨h1,h2,_⟩:=gv.1 h.jC
 unfold bT
 rcases b6 v r.jC.aF.length with h3|h3
 ·exact h2 _ (mQ h3)
 ·rw[aA,br h3]
  exact⟨by decide,by decide⟩
theorem Tz(n i:Nat):(s8 n i).length=n:=by simp[s8]
theorem Wp{n i:Nat}:∀u∈s8 n i,0≤u∧u≤1000000:=by
 intro u hu
 rcases List.mem_or_eq_of_mem_set hu with h|h
 ·rw[(List.mem_replicate.1 h).2];omega
 ·rw[h];omega
theorem Ln(ls:List iV):(bI ls).length=ls.length:=by simp[bI]
theorem DI{ls:List iV}(h:fP ls=true):xZ ls.length (bI ls):=by
 simp only[fP,al,decide_eq_true_eq,c5] at h
 refine⟨by rw[Ln];omega,fun r hr=>?_⟩
 simp only[bI,bG,ff] at hr
 obtain⟨i,hi,rfl⟩:=hr
 exact⟨h.2 _ (mQ hi),Tz _ _,Wp⟩
theorem E4{n:Nat}{a b:cH}{v:Nat}(ha:HU n a)(hb:HU n b)(h1:0<bT a v)(h2:bT b v<0) :
 (1≤uX a b v∧uX a b v≤1000000)∧(1≤o7 a b v∧o7 a b v≤1000000)∧(1≤o8 a b v∧o8 a b v≤1000000):=by
 have ca:=ha.SX v
 have cb:=hb.SX v
 have key:∀{x y:Int},0<x→0<y→x≤1000000→(1≤(bN x y:Int)∧(bN x y:Int)≤x)∧(1≤x.tdiv (bN x y)∧x.tdiv (bN x y)≤x):=by
  intro x y hx hy hm
  have g1:0<bN x y:=Int.gcd_pos_of_ne_zero_left _ (by omega)
  have g2:(bN x y:Int)∣x:=Int.gcd_dvd_left ..
  have g3:(bN x y:Int)≤x:=Int.le_of_dvd hx g2
  refine⟨⟨by omega,g3⟩,?_,?_⟩
  ·rw[jM (by omega)]
   exact Int.le_ediv_of_mul_le (by omega) (by omega)
  ·rw[jM (by omega)]
   exact Int.ediv_le_self _ (by omega)
 have k1:=key h1 (y:=-(bT b v)) (by omega) ca.2
 have k2:=key (x:=-(bT b v)) (y:=bT a v) (by omega) h1 (by omega)
 rw[Int.gcd_comm] at k2
 unfold o7 o8 uX
 omega
theorem Ri:∀{m n:Int}{as bs:List Int},(0≤m∧m≤1000000)→(0≤n∧n≤1000000)→(∀u∈as,0≤u∧u≤1000000)→(∀u∈bs,0≤u∧u≤1000000)→∀u∈comb m n as bs,0≤u∧u≤2000000000000
 | _,_,[],_,_,_,_,_,u,hu=>by simp[comb] at hu
 | _,_,_::_,[],_,_,_,_,u,hu=>by simp[comb] at hu
 | m,n,a::as,b::bs,hm,hn,h1,h2,u,hu=>by
   simp only[comb,ay] at hu
   rcases hu with e|hu
   ·have ha:=h1 a (by simp)
    have hb:=h2 b (by simp)
    have p1:0≤m*a:=Int.mul_nonneg hm.1 ha.1
    have p2:0≤n*b:=Int.mul_nonneg hn.1 hb.1
    have p3:=(dq hm.1 hm.2 (b:=a) ⟨by omega,ha.2⟩).2
    have p4:=(dq hn.1 hn.2 (b:=b) ⟨by omega,hb.2⟩).2
    rw[e];omega
   ·exact Ri hm hn (fun x hx=>h1 x (bh _ hx)) (fun x hx=>h2 x (bh _ hx)) u hu
theorem SK{a b:iV}{m n:Int}(h:(eV a m b n).2=true):eu (eV a m b n).1=true:=by
 unfold eV jO at h⊢
 split
 ·rename_i h1
  rw[if_pos h1] at h
  split
  ·rename_i h2;exact h2
  ·rename_i h2;rw[if_neg h2] at h;cases h
 ·rename_i h1;rw[if_neg h1] at h;cases h
theorem Vp{n:Nat}{a b:cH}{v:Nat}(ha:HU n a)(hb:HU n b)(h1:0<bT a v)(h2:bT b v<0)(h:tN a b v=true):HU n (BD a b v):=by
 simp only[tN,al,c5,decide_eq_true_eq] at h
 obtain⟨_,hp,hq⟩:=E4 ha hb h1 h2
 refine⟨SK h.1,?_,fun u hu=>⟨?_,h.2 u hu⟩⟩
 ·show(comb _ _ _ _).length=n
  rw[kf (by rw[ha.len,hb.len]),ha.len]
 ·exact(Ri ⟨by omega,hq.2⟩ ⟨by omega,hp.2⟩ ha.bd hb.bd u hu).1
theorem Pv{a:cH}{v:Nat}{rows:List cH}{p:cH×cH}(h:p∈pF a v rows):p.1=a∧p.2∈rows∧0<bT p.1 v∧bT p.2 v<0:=by
 simp only[pF,List.mem_filterMap] at h
 obtain⟨b,hb,e⟩:=h
 split at e
 ·rename_i hc
  simp only[Option.some.injEq] at e
  rw[←e]
  exact⟨rfl,hb,hc.1,hc.2⟩
 ·cases e
theorem Dw{n v:Nat}:∀{ps:List (cH×cH)}{out r:List cH},(∀p∈ps,HU n p.1∧HU n p.2∧0<bT p.1 v∧bT p.2 v<0)→xZ n out→mC v ps out=some r→xZ n r
 | [],out,r,_,ho,h=>by
   simp only[mC,Option.some.injEq] at h
   rw[←h];exact ho
 | (a,b)::ps,out,r,hp,ho,h=>by
   rw[mC] at h
   split at h
   ·rename_i hc
    obtain⟨g1,g2,g3,g4⟩:=hp (a,b) (by simp)
    refine Dw (fun p hq=>hp p (bh _ hq)) ⟨by simp;omega,fun x hx=>?_⟩ h
    rcases aP.1 hx with e|e
    ·exact ho.2 x e
    ·simp only[ay,ba,or_false] at e
     rw[e]
     exact Vp g1 g2 g3 g4 hc.1
   ·cases h
theorem S0{n v:Nat}{all rows:List cH}(h1:∀r∈all,HU n r)(h2:∀r∈rows,HU n r):∀p∈pI all rows v,HU n p.1∧HU n p.2∧0<bT p.1 v∧bT p.2 v<0:=by
 intro p hp
 simp only[pI,gC] at hp
 obtain⟨a,ha,hb⟩:=hp
 obtain⟨e1,e2,e3,e4⟩:=Pv hb
 exact⟨e1▸h2 a ha,h1 _ e2,e3,e4⟩
theorem j9{n v:Nat}{rows r:List cH}(h:xZ n rows)(hr:gY rows v=some r):xZ n r:=
 Dw (S0 h.2 h.2) ⟨Nat.le_trans (List.length_filter_le _ _) h.1,fun x hx=>h.2 x (List.mem_filter.1 hx).1⟩ hr
theorem DJ{a:cH}{v j:Nat}{rows:List cH}(h:j<rows.length):pF a v (rows.drop j)=(if 0<bT a v∧bT rows[j] v<0 then [(a,rows[j])] else [])++pF a v (rows.drop (j+1)):=by
 unfold pF
 rw[ae h,List.filterMap_cons]
 split<;>simp_all
theorem Nd{a:cH}{v:Nat}{rows:List cH}(h:¬0<bT a v):pF a v rows=[]:=by
 unfold pF
 refine List.filterMap_eq_nil_iff.2 fun b _=>?_
 rw[if_neg (by omega)]
theorem Dj{v i:Nat}{all rows:List cH}(h:i<rows.length):pI all (rows.drop i) v=pF rows[i] v all++pI all (rows.drop (i+1)) v:=by
 unfold pI
 rw[ae h,List.flatMap_cons]
theorem DB{α:Type}{p:α→Bool}{l:List α}{i:Nat}(h:i<l.length):(l.take (i+1)).filter p=(l.take i).filter p++(if p l[i] then [l[i]] else []):=by
 rw[bq,ah h,List.filter_append]
 congr 1
 simp only[Option.toList_some,List.filter_cons,List.filter_nil]
theorem GS(xs:List Rat)(sum:Rat):lf [] xs sum=some sum:=by cases xs<;>rfl
theorem PX(v i:Nat)(xs:List Rat)(sum:Rat):qR v i [] xs sum=some sum:=by cases xs<;>rfl
theorem NX{v i:Nat}{cs:List Int}{xs:List Rat}(h:i<cs.length)(h':i<xs.length)(sum:Rat):qR v i (cs.drop i) (xs.drop i) sum=if i=v then qR v (i+1) (cs.drop (i+1)) (xs.drop (i+1)) sum else if(plus sum (-cs[i]) xs[i]).2 then qR v (i+1) (cs.drop (i+1)) (xs.drop (i+1)) (plus sum (-cs[i]) xs[i]).1 else none:=by
 rw[ae h,ae h',qR]
theorem ME{i:Nat}{cs:List Int}{xs:List Rat}(h:i<cs.length)(h':i<xs.length)(sum:Rat):lf (cs.drop i) (xs.drop i) sum=if(plus sum cs[i] xs[i]).2 then lf (cs.drop (i+1)) (xs.drop (i+1)) (plus sum cs[i] xs[i]).1 else none:=by
 rw[ae h,ae h',lf]
theorem MW{v i:Nat}{aH:List Rat}{rows:List cH}(h:i<rows.length)(lo hi:Option Rat):oN v aH (rows.drop i) lo hi=if bT rows[i] v=0 then oN v aH (rows.drop (i+1)) lo hi else match m7 rows[i].jC v aH with
 | none=>none
 | some b=>if 0<bT rows[i] v then oN v aH (rows.drop (i+1)) lo (if lower b hi then some b else hi) else oN v aH (rows.drop (i+1)) (if upper b lo then some b else lo) hi:=by
 rw[ae h,oN]
 try rfl
theorem Di{n d:Int}(h:(il n d).2=false):(il n d).1=jE:=by
 unfold il at h⊢
 split
 ·rfl
 ·rename_i h0
  rw[if_neg h0] at h
  simp only at h⊢
  generalize (⟨_,_⟩:Rat)=x at h⊢
  cases hx:bX x
  ·simp
  ·simp[hx] at h
theorem s7{a b:Rat}(h:(db a b).2=false):(db a b).1=jE:=by
 unfold db at h⊢
 split
 ·rename_i h0;rw[if_pos h0] at h;exact Di h
 ·rfl
theorem DN{a b:Rat}(h:(cC a b).2=false):(cC a b).1=jE:=by
 unfold cC at h⊢
 split
 ·rename_i h0;rw[if_pos h0] at h;exact Di h
 ·rfl
theorem Ns{a b:Rat}(h:(qX a b).2=false):(qX a b).1=jE:=by
 unfold qX at h⊢
 split
 ·rename_i h0;rw[if_pos h0] at h;exact DN h
 ·rfl
theorem JN{x:Rat×Bool}(h:x.2=false→x.1=jE):(Ad x).getD jE=x.1∧(Ad x).isSome=x.2:=by
 unfold Ad
 cases hx:x.2
 ·rw[if_neg (by simp),h hx];exact⟨rfl,rfl⟩
 ·rw[if_pos rfl];exact⟨rfl,rfl⟩
theorem LA:∀{l h:Option Rat},(kI l h).2=false→(kI l h).1=jE
 | some _,some _,h=>Ns h
 | none,some _,h=>s7 h
 | some _,none,h=>s7 h
 | none,none,h=>by cases h
theorem tH{rows:List cH}{v:Nat}{aH:List Rat}{st:List (List cH)}(h:valueOf rows v aH=none):me (rows::st) v aH=none:=by
 rw[me,h]
theorem s9{rows:List cH}{v:Nat}{aH:List Rat}{st:List (List cH)}{x:Rat}(h:valueOf rows v aH=some x):me (rows::st) v aH=me st (v+1) (aH.set v x):=by
 rw[me,h]
theorem MO{l:List Rat}{i:Nat}{x:Rat}:(bp l).set i (eU x)=bp (l.set i x):=by simp[bp,kp]
theorem qF{l:List Rat}{i:Nat}{x:Rat}(h:i<l.length):(bp l).set i (sS (row (bp l) i) 0 [.val (.int .i64 x.N),.val (.int .i64 x.D)])=bp (l.set i x):=by
 rw[wZ h,←MO]
 rfl
theorem mE{s n:Nat}{p:Nat×Nat}:p∈dJ s n↔s≤p.1∧p.1<p.2∧p.2<n:=by
 obtain⟨i,k⟩:=p
 simp only[dJ,gC,bG,List.mem_range'_1,Prod.mk.injEq]
 constructor
 ·rintro⟨i',h1,k',h2,rfl,rfl⟩;omega
 ·rintro⟨h1,h2,h3⟩
  exact⟨i,by omega,k,by omega,rfl,rfl⟩
theorem EE{i n:Nat}(h:i<n):dJ i n=(dN (i+1) (n-(i+1))).map (fun k=>(i,k))++dJ (i+1) n:=by
 unfold dJ
 rw[oh h]
 rfl
theorem oW{i n:Nat}(h:n≤i):dJ i n=[]:=by
 unfold dJ
 rw[pM h]
 rfl
theorem kY{n:Nat}{p:Nat→Nat→Bool}{q:Nat×Nat}(h:bW n p=some q):q.1<q.2∧q.2<n∧p q.1 q.2=true:=by
 have h1:=List.find?_some h
 have h2:=mE.1 (e9 h)
 exact⟨h2.2.1,h2.2.2,h1⟩
theorem xm{n:Nat}{p:Nat→Nat→Bool}(h:bW n p=none){i k:Nat}(h1:i<k)(h2:k<n):p i k=false:=by
 have:=List.find?_eq_none.1 h (i,k) (mE.2 ⟨bc _,h1,h2⟩)
 simpa using this
theorem countP_le{α:Type}{p q:α→Bool}:∀{l:List α},(∀x∈l,p x=true→q x=true)→l.countP p≤l.countP q
 | [],_=>aJ _
 | x::l,h=>by
   have:=countP_le (l:=l) fun y hy=>h y (bh _ hy)
   have hx:=h x (by simp)
   simp only[List.countP_cons]
   cases hp:p x
   ·simp;omega
   ·simp[hx hp];omega
theorem CK{α:Type}{p q:α→Bool}:∀{l:List α}{x:α},(∀x∈l,p x=true→q x=true)→x∈l→p x=false→q x=true→l.countP p<l.countP q
 | y::l,x,h,hx,hp,hq=>by
   simp only[List.countP_cons]
   rcases ay.1 hx with e|e
   ·have:=countP_le (l:=l) fun y hy=>h y (bh _ hy)
    rw[←e,hp,hq]
    simp;omega
   ·have:=CK (l:=l) (fun y hy=>h y (bh _ hy)) e hp hq
    have hy:=h y (by simp)
    cases hpy:p y
    ·simp;omega
    ·simp[hy hpy];omega
theorem vn(nums:List Term)(out:List Nat)(e:fO):(eY nums out e).length=out.length:=by
 unfold eY
 split<;>simp
theorem ry(nums:List Term)(eqs:List fO):(j7 nums eqs).length=nums.length:=by
 unfold j7
 have:∀(l:List fO)(c:List Nat),(l.foldl (eY nums) c).length=c.length:=by
  intro l
  induction l with
  | nil=>intro c;rfl
  | cons s l ih=>intro c;rw[gp,ih,vn]
 rw[this,fV]
theorem Gh(nums:List Term)(eqs:List fO)(e:fO):j7 nums (eqs++[e])=eY nums (j7 nums eqs) e:=by
 rw[j7,mr];rfl
theorem IL{nums:List Term}{out:List Nat}{e:fO}{i k:Nat}(hi:i<out.length)(hk:k<out.length)(h:cl out i=cl out k):cl (eY nums out e) i=cl (eY nums out e) k:=by
 unfold eY
 split
 ·exact h
 ·rw[vN hi,vN hk,h]
theorem Jy(a b:List bm):aZ (a++b)=aZ a++aZ b:=by simp[aZ]
theorem M9(a b:Term):aZ [hU a b]=[⟨a,b⟩]:=rfl
theorem MV{nums:List Term}{ab more:List bm}{i k:Nat}(hi:i<nums.length)(hk:k<nums.length)(h:linked nums ab i k=true):linked nums (ab++more) i k=true:=by
 simp only[linked,decide_eq_true_eq] at h⊢
 rw[Jy]
 generalize aZ more=es
 generalize aZ ab=ds at h
 induction es generalizing ds with
 | nil=>rw[bl];exact h
 | cons e es ih=>
   have:=ih (ds++[e]) (by
    rw[Gh]
    exact IL (by rw[ry];exact hi) (by rw[ry];exact hk) h)
   rw[bj] at this
   exact this
theorem jG{nums:List Term}(hn:nums.Nodup){i:Nat}(hi:i<nums.length):bK nums nums[i]=i:=by
 have hm:nums[i]∈nums:=ak hi
 have h1:=jt hm
 have h2:=cV.2 hm
 obtain⟨h3,h4⟩:=bH.1 h1
 have:=(List.getElem_inj hn).1 h4
 omega
theorem e7{nums:List Term}{i:Nat}(hi:i<nums.length):nums.getD i aM=nums[i]:=by
 rw[aA,ah hi];rfl
theorem Pp{nums:List Term}(hn:nums.Nodup){ab:List bm}{i k:Nat}(hi:i<nums.length)(hk:k<nums.length):linked nums (ab++[hU (nums.getD i aM) (nums.getD k aM)]) i k=true:=by
 simp only[linked,decide_eq_true_eq]
 rw[Jy,M9,Gh,eY,e7 hi,e7 hk]
 have e1:=jG hn hi
 have e2:=jG hn hk
 simp only[e1,e2,aG,bn]
 rw[if_neg (by omega),vN (by rw[ry];exact hi),vN (by rw[ry];exact hk)]
 simp
theorem Dh{nums:List Term}{ab more:List bm}{i k:Nat}(h:eS nums ab i k=true):eS nums (ab++more) i k=true:=by
 simp only[eS,List.any_append,Bool.or_eq_true] at h⊢
 exact .inl h
theorem GA(a b:Term):(eE a b).no=false:=by
 unfold eE
 split<;>rfl
theorem Gn{nums:List Term}{ab:List bm}{i k:Nat}:eS nums (ab++[eE (nums.getD i aM) (nums.getD k aM)]) i k=true:=by
 simp[eS,GA]
def qS(nums:List Term)(ab:List bm)(i k:Nat):Bool:=!linked nums ab i k&&(!eS nums ab i k&& !eS nums ab k i)
def room(nums:List Term)(ab:List bm):Nat:=(dJ 0 nums.length).countP (fun q=>!linked nums ab q.1 q.2)+(dJ 0 nums.length).countP (fun q=>qS nums ab q.1 q.2)
theorem wo{nums:List Term}{ab more:List bm}:∀q∈dJ 0 nums.length,(!linked nums (ab++more) q.1 q.2)=true→(!linked nums ab q.1 q.2)=true:=by
 intro q hq h
 have hm:=mE.1 hq
 cases hl:linked nums ab q.1 q.2
 ·rfl
 ·rw[MV (by omega) (by omega) hl] at h;cases h
theorem MR{nums:List Term}{ab more:List bm}:∀q∈dJ 0 nums.length,qS nums (ab++more) q.1 q.2=true→qS nums ab q.1 q.2=true:=by
 intro q hq h
 simp only[qS,al] at h⊢
 refine⟨wo q hq h.1,?_,?_⟩
 ·cases hl:eS nums ab q.1 q.2
  ·rfl
  ·rw[Dh hl] at h;simp at h
 ·cases hl:eS nums ab q.2 q.1
  ·rfl
  ·have:=h.2.2;rw[Dh hl] at this;cases this
theorem YI{nums:List Term}(hn:nums.Nodup){ab:List bm}{i k:Nat}(h1:i<k)(h2:k<nums.length)(h:linked nums ab i k=false):room nums (ab++[hU (nums.getD i aM) (nums.getD k aM)])<room nums ab:=by
 unfold room
 have a:=CK (x:=(i,k)) (wo (more:=[hU (nums.getD i aM) (nums.getD k aM)])) (mE.2 ⟨bc _,h1,h2⟩) (by show(!linked nums (ab++[hU (nums.getD i aM) (nums.getD k aM)]) i k)=false;rw[Pp hn (show i<nums.length by omega) h2];rfl) (by rw[h];rfl)
 have b:=countP_le (MR (nums:=nums) (ab:=ab) (more:=[hU (nums.getD i aM) (nums.getD k aM)]))
 omega
theorem JO{nums:List Term}{ab:List bm}{i k:Nat}(h1:i<k)(h2:k<nums.length)(h:qS nums ab i k=true){l:bm}(hl:l=eE (nums.getD i aM) (nums.getD k aM)∨l=eE (nums.getD k aM) (nums.getD i aM)):room nums (ab++[l])<room nums ab:=by
 unfold room
 have a:=countP_le (wo (nums:=nums) (ab:=ab) (more:=[l]))
 have b:=CK (x:=(i,k)) (MR (nums:=nums) (ab:=ab) (more:=[l])) (mE.2 ⟨bc _,h1,h2⟩) (by
  rcases hl with rfl|rfl
  ·simp only[qS,Gn];simp
  ·simp only[qS,Gn];simp) h
 omega
theorem room_le{nums:List Term}(h:nums.length≤4)(ab:List bm):room nums ab≤12:=by
 have a:=List.countP_le_length (p:=fun q:Nat×Nat=>!linked nums ab q.1 q.2) (l:=dJ 0 nums.length)
 have b:=List.countP_le_length (p:=fun q:Nat×Nat=>qS nums ab q.1 q.2) (l:=dJ 0 nums.length)
 have c:(dJ 0 nums.length).length≤6:=by
  have key:∀n,n≤4→(dJ 0 n).length≤6:=by decide
  exact key _ h
 unfold room
 omega
def pd(aj:List Step)(v i:Nat):Option Edge:=if vB aj i=v then some ⟨i,true⟩ else if vA aj i=v then some ⟨i,false⟩ else none
def vZ(rec_:Nat→List Nat→Option (List Edge))(aj:List Step)(v:Nat)(dR:List Nat):List Nat→Option (List Edge)
 | []=>none
 | i::is=>match pd aj v i with
   | none=>vZ rec_ aj v dR is
   | some e=>if ij aj e∈dR then vZ rec_ aj v dR is else match rec_ (ij aj e) (dR++[ij aj e]) with
     | none=>vZ rec_ aj v dR is
     | some r=>some (e::r)
def tY(aj:List Step)(n to:Nat):Nat→Nat→List Nat→Option (List Edge)
 | 0,_,_=>none
 | f+1,v,dR=>if v=to then some [] else vZ (tY aj n to f) aj v dR (bx n)
def uy(e:Edge):Int:=if e.back then -1-(e.step:Int) else e.step
theorem Nz{aj:List Step}{v i:Nat}{e:Edge}(h:pd aj v i=some e):e.step=i∧gF aj e=v:=by
 unfold pd at h
 split at h
 ·rename_i h1;simp only[Option.some.injEq] at h;rw[←h];exact⟨rfl,h1⟩
 ·split at h
  ·rename_i h1;simp only[Option.some.injEq] at h;rw[←h];exact⟨rfl,h1⟩
  ·cases h
def Found(aj:List Step)(n to v:Nat)(dR:List Nat)(es:List Edge):Prop:=oU n es∧pD aj v es to∧(gL aj v es).Nodup∧∀w∈es.map (ij aj),w∉dR
theorem FV{aj:List Step}{n to v:Nat}{dR:List Nat}{rec_:Nat→List Nat→Option (List Edge)}(hv:v∈dR)(hr:∀w seen' es,w∈seen'→rec_ w seen'=some es→Found aj n to w seen' es) :
 ∀{is:List Nat}{es:List Edge},(∀i∈is,i<n)→vZ rec_ aj v dR is=some es→Found aj n to v dR es
 | [],es,_,h=>by cases h
 | i::is,es,hi,h=>by
   have more:=FV (is:=is) (es:=es) hv hr fun j hj=>hi j (bh _ hj)
   simp only[vZ] at h
   split at h
   ·exact more h
   ·rename_i e he
    obtain⟨h1,h2⟩:=Nz he
    split at h
    ·exact more h
    ·rename_i hs
     split at h
     ·exact more h
     ·rename_i r je
      simp only[Option.some.injEq] at h
      obtain⟨a1,a2,a3,a4⟩:=hr _ _ _ (by simp) je
      rw[←h]
      refine⟨fun x hx=>?_,⟨h2,a2⟩,?_,?_⟩
      ·rcases ay.1 hx with e1|hx
       ·rw[e1,h1];exact hi i (by simp)
       ·exact a1 x hx
      ·refine cI.2 ⟨fun hm=>?_,?_⟩
       ·simp only[aQ,ay] at hm
        rcases hm with e1|hm
        ·rw[e1] at hv;exact hs hv
        ·exact a4 v hm (du _ hv)
       ·exact a3
      ·intro w hw hws
       simp only[aQ,ay] at hw
       rcases hw with e1|hw
       ·rw[e1] at hws;exact hs hws
       ·exact a4 w hw (du _ hws)
theorem G8{aj:List Step}{n to:Nat}:∀(f v:Nat)(dR:List Nat)(es:List Edge),v∈dR→tY aj n to f v dR=some es→Found aj n to v dR es
 | 0,_,_,_,_,h=>by cases h
 | f+1,v,dR,es,hv,h=>by
   rw[tY] at h
   split at h
   ·rename_i e
    simp only[Option.some.injEq] at h
    rw[←h]
    exact⟨fun x hx=>by simp at hx,e,by simp[gL],fun w hw=>by simp at hw⟩
   ·exact FV hv (fun w s es hw hr=>G8 f w s es hw hr) (fun i hi=>ff.1 hi) h
theorem JM{aj:List Step}{v:Nat}{dR:List Nat}{rec_:Nat→List Nat→Option (List Edge)}{e:Edge}(he:pd aj v e.step=some e)(hs:ij aj e∉dR)(hr:(rec_ (ij aj e) (dR++[ij aj e])).isSome=true) :
 ∀{is:List Nat},e.step∈is→(vZ rec_ aj v dR is).isSome=true
 | i::is,hm=>by
   rcases ay.1 hm with e1|hm
   ·subst e1
    simp only[vZ,he,if_neg hs]
    obtain⟨r,je⟩:=cK.1 hr
    simp[je]
   ·have more:=JM he hs hr hm
    simp only[vZ]
    split
    ·exact more
    ·split
     ·exact more
     ·split
      ·exact more
      ·rfl
section
variable{af:List Term}{eqs:List fO}{aj:List Step}(eW:lz af eqs aj)
include eW
theorem NK{e:Edge}(h:e.step<aj.length):pd aj (gF aj e) e.step=some e:=by
 have jJ:=(oL eW h).ne
 obtain⟨k,b⟩:=e
 unfold pd gF
 cases b
 ·simp only[ax,if_false]
  rw[if_neg (fun he=>jJ (by simp only[vA,vB] at he;rw[he])),if_pos True.intro]
 ·simp
theorem J2{n to:Nat}(hn:n≤aj.length):∀(es:List Edge)(f v:Nat)(dR:List Nat),dR.Nodup→(∀w∈dR,w<af.length)→af.length+1≤f+dR.length→oU n es→pD aj v es to→(gL aj v es).Nodup→(∀w∈es.map (ij aj),w∉dR) →
 (tY aj n to f v dR).isSome=true
 | es,0,v,dR,h1,h2,h3,_,_,_,_=>by
   have:=kd h1 h2
   omega
 | [],f+1,v,dR,_,_,_,_,hw,_,_=>by
   simp only[pD] at hw
   rw[tY,if_pos hw];rfl
 | e::es,f+1,v,dR,h1,h2,h3,hi,hw,hnd,hs=>by
   have he:=hi e (by simp)
   obtain⟨w1,w2⟩:=hw
   have hto:to∈(e::es).map (ij aj):=by
    have:=GR w2
    simpa[gL] using this
   have hv:v≠to:=fun h=>(cI.1 hnd).1 (h▸hto)
   rw[tY,if_neg hv]
   have hen:ij aj e∉dR:=hs _ (by simp)
   refine JM (e:=e) (by rw[←w1];exact NK eW (by omega)) hen ?_ (ff.2 he)
   refine J2 hn es f _ _ (dm.2 ⟨h1,by simp,fun x hx y hy e1=>?_⟩) (fun w hw=>?_) (by simp;omega) (fun x hx=>hi x (bh _ hx)) w2 (cI.1 hnd).2 (fun w hw hws=>?_)
   ·simp only[ay,ba,or_false] at hy
    rw[e1,hy] at hx
    exact hen hx
   ·rcases aP.1 hw with hw|hw
    ·exact h2 w hw
    ·simp only[ay,ba,or_false] at hw
     rw[hw];exact yp eW (by omega)
   ·rcases aP.1 hws with hws|hws
    ·exact hs w (by simp only[aQ,ay];exact .inr hw) hws
    ·simp only[ay,ba,or_false] at hws
     have:=(cI.1 (cI.1 hnd).2).1
     rw[hws] at hw
     exact this hw
theorem Yw{n a b:Nat}(hn:n≤aj.length)(ha:a<af.length)(hb:b<af.length)(h:cl (aR af.length aj n) a=cl (aR af.length aj n) b):tY aj n b af.length a [a]=some (lR af.length aj n a b):=by
 obtain⟨i1,i2,i3⟩:=rD eW hn ha hb h
 have hsome:=J2 eW hn (to:=b) _ af.length a [a] (by simp) (fun w hw=>by simp at hw;omega) (by simp) i1 i2 i3 (fun w hw hws=>by
  simp only[ay,ba,or_false] at hws
  rw[hws] at hw
  exact(cI.1 i3).1 hw)
 obtain⟨es,he⟩:=cK.1 hsome
 obtain⟨f1,f2,f3,f4⟩:=G8 _ _ _ _ (by simp) he
 rw[he,r9 eW hn ha f1 f2 f3]
end
theorem PO{n:Int}:lr n 0=(jE,false):=by
 unfold lr il
 split<;>simp
theorem Hy{n d:Int}(h:1000000000<rj n∨1000000000<rj d):lr n d=(jE,false):=by
 unfold lr
 rw[if_neg]
 simp only[al,dj]
 rintro⟨h1,h2⟩
 have:=th.2 h1
 have:=th.2 h2
 omega
theorem VR{n d:Int}(h1:rj n≤1000000000)(h2:rj d≤1000000000):lr n d=il n d:=by
 unfold lr
 rw[if_pos]
 simp only[al,dj]
 exact⟨th.1 h1,th.1 h2⟩
theorem Nw{n d:Int}(h0:¬d=0)(h:d<0):il n d=il (-n) (-d):=by
 have h2:¬ -d<0:=by omega
 have h3:¬ -d=0:=by omega
 unfold il
 simp only[if_neg h0,if_pos h,if_neg h2,if_neg h3]
def tm:List Int→List Rat→Rat→Rat×Bool
 | c::cs,x::xs,sum=>if(cC (whole c) x).2 then(if(db sum (cC (whole c) x).1).2 then tm cs xs (db sum (cC (whole c) x).1).1 else(jE,false)) else(sum,false)
 | _,_,sum=>(sum,true)
theorem Fz:∀{cs:List Int}{xs:List Rat}{sum:Rat},lf cs xs sum=Ad (tm cs xs sum)
 | [],_,sum=>rfl
 | _::_,[],sum=>rfl
 | c::cs,x::xs,sum=>by
   rw[lf,tm]
   rcases kF (cC (whole c) x).2 with h1|h1
   ·have e:plus sum c x=db sum (cC (whole c) x).1:=by rw[plus,if_pos h1]
    rw[e,if_pos h1]
    rcases kF (db sum (cC (whole c) x).1).2 with h2|h2
    ·rw[if_pos h2,if_pos h2]
     exact Fz
    ·rw[if_neg (by rw[h2];simp),if_neg (by rw[h2];simp)]
     rfl
   ·have e:plus sum c x=(jE,false):=by rw[plus,if_neg (by rw[h1];simp)]
    rw[e,if_neg (by simp),if_neg (by rw[h1];simp)]
    rfl
theorem O9{i:Nat}{cs:List Int}{xs:List Rat}(h:i<cs.length)(h':i<xs.length)(sum:Rat):tm (cs.drop i) (xs.drop i) sum=if(cC (whole cs[i]) xs[i]).2 then(if(db sum (cC (whole cs[i]) xs[i]).1).2 then tm (cs.drop (i+1)) (xs.drop (i+1)) (db sum (cC (whole cs[i]) xs[i]).1).1 else(jE,false)) else(sum,false):=by
 rw[ae h,ae h',tm]
theorem Tl(xs:List Rat)(sum:Rat):tm [] xs sum=(sum,true):=by cases xs<;>rfl
theorem Jw:∀{cs:List Int}{xs:List Rat}{sum r:Rat},bX sum=true→lf cs xs sum=some r→bX r=true
 | [],_,sum,r,h,e=>by simp only[lf,Option.some.injEq] at e;rw[←e];exact h
 | _::_,[],sum,r,h,e=>by simp only[lf,Option.some.injEq] at e;rw[←e];exact h
 | c::cs,x::xs,sum,r,h,e=>by
   simp only[lf] at e
   split at e
   ·rename_i h1;exact Jw (Rz h1) e
   ·cases e
def nj(v:Nat):Nat→List Int→List Rat→Rat→Rat×Bool
 | i,c::cs,x::xs,sum=>if i=v then nj v (i+1) cs xs sum else if(cC (whole (-c)) x).2 then(if(db sum (cC (whole (-c)) x).1).2 then nj v (i+1) cs xs (db sum (cC (whole (-c)) x).1).1 else(jE,false)) else(sum,false)
 | _,_,_,sum=>(sum,true)
theorem Cp{v:Nat}:∀{i:Nat}{cs:List Int}{xs:List Rat}{sum:Rat},qR v i cs xs sum=Ad (nj v i cs xs sum)
 | _,[],_,sum=>rfl
 | _,_::_,[],sum=>rfl
 | i,c::cs,x::xs,sum=>by
   rw[qR,nj]
   split
   ·exact Cp
   ·rcases kF (cC (whole (-c)) x).2 with h1|h1
    ·have e:plus sum (-c) x=db sum (cC (whole (-c)) x).1:=by rw[plus,if_pos h1]
     rw[e,if_pos h1]
     rcases kF (db sum (cC (whole (-c)) x).1).2 with h2|h2
     ·rw[if_pos h2,if_pos h2]
      exact Cp
     ·rw[if_neg (by rw[h2];simp),if_neg (by rw[h2];simp)]
      rfl
    ·have e:plus sum (-c) x=(jE,false):=by rw[plus,if_neg (by rw[h1];simp)]
     rw[e,if_neg (by simp),if_neg (by rw[h1];simp)]
     rfl
theorem OG{v i:Nat}{cs:List Int}{xs:List Rat}(h:i<cs.length)(h':i<xs.length)(sum:Rat):nj v i (cs.drop i) (xs.drop i) sum=if i=v then nj v (i+1) (cs.drop (i+1)) (xs.drop (i+1)) sum else if(cC (whole (-cs[i])) xs[i]).2 then(if(db sum (cC (whole (-cs[i])) xs[i]).1).2 then nj v (i+1) (cs.drop (i+1)) (xs.drop (i+1)) (db sum (cC (whole (-cs[i])) xs[i]).1).1 else(jE,false)) else(sum,false):=by
 rw[ae h,ae h',nj]
theorem OW(v i:Nat)(xs:List Rat)(sum:Rat):nj v i [] xs sum=(sum,true):=by cases xs<;>rfl
def gE(l:iV)(v:Nat)(aH:List Rat):Rat×Bool:=
 if(nj v 0 l.aF aH (whole l.bound)).2 then(if(lr 1 (l.aF.getD v 0)).2 then cC (nj v 0 l.aF aH (whole l.bound)).1 (lr 1 (l.aF.getD v 0)).1 else((nj v 0 l.aF aH (whole l.bound)).1,false)) else((nj v 0 l.aF aH (whole l.bound)).1,false)
theorem PI{l:iV}{v:Nat}{aH:List Rat}:m7 l v aH=Ad (gE l v aH):=by
 unfold m7 gE
 rw[Cp]
 generalize nj v 0 l.aF aH (whole l.bound)=r
 generalize lr 1 (l.aF.getD v 0)=b
 obtain⟨r,o⟩:=r
 obtain⟨b,p⟩:=b
 cases o<;>cases p<;>simp[Ad]
def oa(v:Nat):List (cH×cH)→List cH→List cH×Bool
 | [],out=>(out,true)
 | (a,b)::ps,out=>if tN a b v=true∧out.length<200 then oa v ps (out++[BD a b v]) else(out,false)
def HX{α:Type}(x:α×Bool):Option α:=if x.2 then some x.1 else none
theorem Bl{v:Nat}:∀{ps:List (cH×cH)}{out:List cH},mC v ps out=HX (oa v ps out)
 | [],out=>rfl
 | (a,b)::ps,out=>by
   rw[mC,oa]
   split
   ·exact Bl
   ·rfl
def qD(rows:List cH)(v:Nat):List cH×Bool:=oa v (pI rows rows v) (rows.filter fun r=>decide (bT r v=0))
theorem MI{rows:List cH}{v:Nat}:gY rows v=HX (qD rows v):=Bl
theorem vQ{rows:List cH}{v:Nat}(h:(qD rows v).2=false):gY rows v=none:=by rw[MI,HX,h];rfl
theorem wj{rows:List cH}{v:Nat}(h:(qD rows v).2=true):gY rows v=some (qD rows v).1:=by rw[MI,HX,h];rfl
def iy(v:Nat)(aH:List Rat):List cH→Option Rat→Option Rat→(Option Rat×Option Rat)×Bool
 | [],lo,hi=>((lo,hi),true)
 | r::rs,lo,hi=>if bT r v=0 then iy v aH rs lo hi else
   if(gE r.jC v aH).2 then
    (if 0<bT r v then iy v aH rs lo (if lower (gE r.jC v aH).1 hi then some (gE r.jC v aH).1 else hi) else iy v aH rs (if upper (gE r.jC v aH).1 lo then some (gE r.jC v aH).1 else lo) hi)
   else((lo,hi),false)
theorem Bk{v:Nat}{aH:List Rat}:∀{rows:List cH}{lo hi:Option Rat},oN v aH rows lo hi=HX (iy v aH rows lo hi)
 | [],lo,hi=>rfl
 | r::rs,lo,hi=>by
   rw[oN,iy,PI,Ad]
   split
   ·exact Bk
   ·generalize gE r.jC v aH=b
    obtain⟨b,ok⟩:=b
    cases ok
    ·rfl
    ·simp only[if_true]
     split
     ·exact Bk
     ·exact Bk
theorem Qd{v i:Nat}{aH:List Rat}{rows:List cH}(h:i<rows.length)(lo hi:Option Rat):iy v aH (rows.drop i) lo hi=if bT rows[i] v=0 then iy v aH (rows.drop (i+1)) lo hi else
 if(gE rows[i].jC v aH).2 then
  (if 0<bT rows[i] v then iy v aH (rows.drop (i+1)) lo (if lower (gE rows[i].jC v aH).1 hi then some (gE rows[i].jC v aH).1 else hi) else iy v aH (rows.drop (i+1)) (if upper (gE rows[i].jC v aH).1 lo then some (gE rows[i].jC v aH).1 else lo) hi)
 else((lo,hi),false):=by
 rw[ae h,iy]
def wu:List (List cH)→Nat→List Rat→List Rat×Bool
 | [],_,aH=>(aH,true)
 | rows::st,v,aH=>
   if(iy v aH rows none none).2 then
    (if(kI (iy v aH rows none none).1.1 (iy v aH rows none none).1.2).2 then wu st (v+1) (aH.set v (kI (iy v aH rows none none).1.1 (iy v aH rows none none).1.2).1)
     else(aH.set v (kI (iy v aH rows none none).1.1 (iy v aH rows none none).1.2).1,false))
   else(aH,false)
theorem Nr:∀{st:List (List cH)}{v:Nat}{aH:List Rat},me st v aH=HX (wu st v aH)
 | [],v,aH=>rfl
 | rows::st,v,aH=>by
   rw[me,wu,valueOf,Bk,HX]
   generalize iy v aH rows none none=b
   obtain⟨⟨lo,hi⟩,ok⟩:=b
   cases ok
   ·rfl
   ·simp only[if_true,Ad]
    generalize kI lo hi=c
    obtain⟨c,ok⟩:=c
    cases ok
    ·rfl
    ·exact Nr
theorem Pg{st:List (List cH)}{i:Nat}(h:i<st.length)(aH:List Rat):wu (st.drop i) i aH =
 if(iy i aH st[i] none none).2 then
  (if(kI (iy i aH st[i] none none).1.1 (iy i aH st[i] none none).1.2).2 then wu (st.drop (i+1)) (i+1) (aH.set i (kI (iy i aH st[i] none none).1.1 (iy i aH st[i] none none).1.2).1)
   else(aH.set i (kI (iy i aH st[i] none none).1.1 (iy i aH st[i] none none).1.2).1,false))
 else(aH,false):=by
 rw[ae h,wu]
def PZ(rows:List cH):List Int:=match rows.find? fun r=>kv r.jC with|some r=>r.fQ|none=>[]
theorem Tu(v:Nat):gY [] v=some []:=rfl
def pH(l:List (List cH)):List (List D):=l.map fun x=>[.dt (dX x)]
theorem O1(l:List (List cH)):(pH l).length=l.length:=by simp[pH]
theorem pw{l:List (List cH)}{i:Nat}(h:i<l.length):row (pH l) i=[.dt (dX l[i])]:=by simp[pH,row,cr,ah h]
theorem vj{l:List (List cH)}{i:Nat}{x:List cH}(h:i<l.length):(pH l).set i (sS (row (pH l) i) 0 [.dt (dX x)])=pH (l.set i x):=by
 rw[pw h]
 simp[pH,kp,sS]
attribute [go_sem] O1 pw
def gR(af:List Term):Prop:=∀t∈af,∀k∈t.kids,k∈af
theorem bA{af:List Term}{t:Term}(h:t∈af):aG af t<af.length:=nQ h
theorem cd{af:List Term}{t:Term}(h:t∈af):bK af t=(aG af t:Int):=by
 have:=cV.2 h
 unfold aG
 omega
theorem DR{af:List Term}{c:List Nat}{xs ys:List Term}{i:Nat}(h:i<xs.length)(h':i<ys.length):ly af c (xs.drop i) (ys.drop i)=(Jo af c xs[i] ys[i]&&ly af c (xs.drop (i+1)) (ys.drop (i+1))):=by
 rw[ae h,ae h',ly]
theorem HQ{af:List Term}{c:List Nat}:ly af c [] []=true:=rfl
theorem zY{af:List Term}{c:List Nat}:∀{xs ys:List Term},xs.length≠ys.length→ly af c xs ys=false
 | [],[],h=>(h rfl).elim
 | [],_::_,_=>rfl
 | _::_,[],_=>rfl
 | x::xs,y::ys,h=>by
   rw[ly,zY (by simpa using h),Bool.and_false]
def fJ(c:List Nat)(from_ to i:Nat):List Nat:=((c.take i).map fun k=>if k=from_ then to else k)++c.drop i
theorem sF(c:List Nat)(f t i:Nat):(fJ c f t i).length=c.length:=by simp[fJ];omega
theorem rC{c:List Nat}{f t i:Nat}(h:i<c.length)(h':i<(fJ c f t i).length):(fJ c f t i)[i]=c[i]:=by
 have:(fJ c f t i)[i]?=some c[i]:=by
  unfold fJ
  rw[bt (by simp;omega)]
  simp only[dA,bU,nO (Nat.le_of_lt h),kj,List.getElem?_drop,Nat.add_zero]
  exact ah h
 exact(bH.1 this).2
theorem qn{c:List Nat}{f t i:Nat}(h:i<c.length):fJ c f t (i+1)=(fJ c f t i).set i (if c[i]=f then t else c[i]):=by
 have e:((c.take i).map fun k=>if k=f then t else k).length=i:=by
  rw[dA,bU,nO (Nat.le_of_lt h)]
 unfold fJ
 rw[List.set_append_right _ _ (by omega),e,kj,ae h,List.set_cons_zero,bq,ah h,cL,bj]
 rfl
theorem tq{c:List Nat}{f t i:Nat}(h:i<c.length)(jJ:c[i]≠f):fJ c f t (i+1)=fJ c f t i:=by
 rw[qn h,if_neg jJ]
 conv=>rhs;rw[←List.set_getElem_self (as:=fJ c f t i) (i:=i) (h:=by rw[sF];exact h)]
 rw[rC h]
theorem F6{c:List Nat}{a b i:Nat}(h:c.length≤i):fJ c (max (cl c a) (cl c b)) (min (cl c a) (cl c b)) i=gj c a b:=by
 unfold fJ gj
 rw[List.take_of_length_le h,List.drop_of_length_le h,bl]
theorem uW{l:List Nat}{i n:Nat}(h:i<l.length):(bQ l).set i (sS (row (bQ l) i) 0 [.val (.int .i64 (n:Int))])=bQ (l.set i n):=by
 rw[pn h,←Sx]
 rfl
def qu(e l n:Nat):List (Nat×Nat):=(dN e (l-e)).map (fun e=>(e,l))++jA (l+1) n
theorem x8{l n:Nat}(h:l<n):jA l n=qu 0 l n:=Fw h
theorem y8{e l n:Nat}(h:e<l):qu e l n=(e,l)::qu (e+1) l n:=by
 unfold qu
 rw[oh h];rfl
theorem BU{e l n:Nat}(h:l≤e):qu e l n=jA (l+1) n:=by
 unfold qu
 rw[pM h];rfl
def vU(af:List Term)(aj:List Step)(qk:Nat→Nat→Nat→jy)(i:Nat):jy:=
 if(ib aj i).given<0 then .mk 5 0 (.mk (af.getD (vA aj i) aM).name []) (((af.getD (vA aj i) aM).kids.zip (af.getD (vB aj i) aM).kids).map fun p=>qk i (aG af p.1) (aG af p.2)) else .mk 2 (ib aj i).given aM []
theorem HK(af:List Term)(aj:List Step)(qk:Nat→Nat→Nat→jy)(e:Edge):kJ af aj qk e=if e.back then .mk 3 0 aM [vU af aj qk e.step] else vU af aj qk e.step:=rfl
theorem r6{aj:List Step}{i:Nat}(h:i<aj.length):ib aj i=aj[i]:=by
 rw[ib,aA,ah h];rfl
theorem wV{c:List Nat}{a b m:Nat}(h:∀x∈c,x≤m):∀x∈gj c a b,x≤m:=by
 intro x hx
 simp only[gj,bG] at hx
 obtain⟨y,hy,rfl⟩:=hx
 have hle:∀i,cl c i≤m:=fun i=>by
  rcases b6 i c.length with h1|h1
  ·exact h _ (Ai h1)
  ·rw[Y0 h1];exact bc _
 have:=hle a
 have:=hle b
 have:=h y hy
 split<;>omega
theorem pq{m:Nat}:∀{c:List Nat},(∀x∈c,x≤m)→c.sum≤c.length*m
 | [],_=>by simp
 | x::c,h=>by
   have h1:=h x (by simp)
   have h2:=pq (c:=c) fun y hy=>h y (bh _ hy)
   simp only[List.sum_cons,a6,Nat.add_mul]
   omega
theorem Dc{af:List Term}{c:List Nat}:∀{xs ys:List Term},ly af c xs ys=true→xs.length=ys.length∧∀(i:Nat)(h:i<xs.length)(h':i<ys.length),cl c (aG af xs[i])=cl c (aG af ys[i])
 | [],[],_=>⟨rfl,fun i h=>by simp at h⟩
 | [],_::_,h=>by cases h
 | _::_,[],h=>by cases h
 | x::xs,y::ys,h=>by
   simp only[ly,al] at h
   obtain⟨i1,i2⟩:=Dc h.2
   refine⟨by simp[i1],fun i h1 h2=>?_⟩
   cases i with
   | zero=>simpa[Jo] using h.1
   | succ i=>exact i2 i (by simpa using h1) (by simpa using h2)
theorem Om{af:List Term}{c:List Nat}{a b:Nat}(h:alike af c a b=true):0<(af.getD a aM).kids.length∧(af.getD a aM).name=(af.getD b aM).name∧(af.getD a aM).kids.length=(af.getD b aM).kids.length ∧
 ∀(i:Nat)(h:i<(af.getD a aM).kids.length)(h':i<(af.getD b aM).kids.length),cl c (aG af (af.getD a aM).kids[i])=cl c (aG af (af.getD b aM).kids[i]):=by
 simp only[alike,al,decide_eq_true_eq] at h
 obtain⟨i1,i2⟩:=Dc h.2.2
 exact⟨h.1,h.2.1,i1,i2⟩
theorem Mx{α β γ:Type}{f:α×β→γ}{xs:List α}{ys:List β}{i:Nat}(h:i<xs.length)(h':i<ys.length):((xs.zip ys).take (i+1)).map f=((xs.zip ys).take i).map f++[f (xs[i],ys[i])]:=by
 rw[bq,ah (by simp;omega),cL]
 simp
theorem SS{rec_:Nat→List Nat→Option (List Edge)}{aj:List Step}{v n i:Nat}{dR:List Nat}(h:i<n):vZ rec_ aj v dR (dN i (n-i))=match pd aj v i with
 | none=>vZ rec_ aj v dR (dN (i+1) (n-(i+1)))
 | some e=>if ij aj e∈dR then vZ rec_ aj v dR (dN (i+1) (n-(i+1))) else match rec_ (ij aj e) (dR++[ij aj e]) with
   | none=>vZ rec_ aj v dR (dN (i+1) (n-(i+1)))
   | some r=>some (e::r):=by
 rw[oh h,vZ]
 all_goals rfl
def R5(one:Edge→jy)(t:Term):List Edge→jy
 | []=>.mk 1 0 t []
 | e::es=>oV one (one e) es
theorem RC(af:List Term)(aj:List Step)(f n a b:Nat):lk af aj (f+1) n a b=R5 (kJ af aj (lk af aj f)) (af.getD a aM) (lR af.length aj n a b):=by
 rw[lk]
 cases lR af.length aj n a b<;>rfl
theorem xe{one:Edge→jy}{t:Term}{way:List Edge}(h:0<way.length):R5 one t way=oV one (one way[0]) (way.drop 1):=by
 cases way with
 | nil=>simp at h
 | cons e es=>rfl
theorem B4{rec_:Nat→List Nat→Option (List Edge)}{aj:List Step}{v:Nat}{dR:List Nat}:∀{l:List Nat}{r:List Edge},vZ rec_ aj v dR l=some r→∃e w s r',r=e::r'∧rec_ w s=some r'
 | [],r,h=>by cases h
 | i::l,r,h=>by
   rw[vZ] at h
   split at h
   ·exact B4 h
   ·split at h
    ·exact B4 h
    ·split at h
     ·exact B4 h
     ·rename_i hr
      simp only[Option.some.injEq] at h
      exact⟨_,_,_,_,h.symm,hr⟩
theorem Cg{aj:List Step}{n to:Nat}:∀{f v:Nat}{dR:List Nat}{r:List Edge},tY aj n to f v dR=some r→r.length≤f
 | 0,_,_,_,h=>by cases h
 | f+1,v,dR,r,h=>by
   rw[tY] at h
   split at h
   ·simp only[Option.some.injEq] at h
    rw[←h]
    exact bc _
   ·obtain⟨e,w,s,r',rfl,h2⟩:=B4 h
    have:=Cg h2
    simp only[a6]
    omega
end Go.Mod
