/-
  What the deciding functions of chapters 3, 5 and 8 compute, in plain Lean: elimination, closures, explanations, decisions. No program is walked here.
-/
import Derived.Test.YtabembjmeobhoaaGreatKCE
set_option linter.unusedVariables false
set_option linter.unusedSimpArgs false
open Bool renaming and_eq_true→ai,false_eq_true→aw,eq_false_or_eq_true→kL
open Classical renaming em→aa
open Int renaming toNat_natCast→bn,gcd→bM,natCast_nonneg→iD,tdiv_eq_ediv_of_nonneg→jU
open List renaming getElem?_eq_getElem→af,drop_eq_getElem_cons→ah,getElem_mem→ak,mem_cons→ax,getD_eq_getElem?_getD→ay,mem_append→aP,map_cons→aQ,length_cons→aW,not_mem_nil→ba,getElem?_append_left→bf,mem_cons_of_mem→bh,append_assoc→bj,append_nil→bm,getElem?_eq_none→bo,take_add_one→bq,range→bu,getElem?_append_right→bw,cons_append→bA,getElem?_eq_some_iff→bB,nil_append→bC,mem_map→bF,length_take→bT,all_eq_true→cg,getD→ct,nodup_cons→cJ,map_append→cK,nodup_append→dt,mem_append_left→dy,map_nil→dB,length_map→dF,range'→dV,mem_of_find?_eq_some→ff,mem_range→fq,mem_flatMap→fR,length_range→fX,foldl_cons→gw,getElem?_cons_zero→gH,map_set→kE,foldl_append→mD,reverse_cons→mE,reverse_append→nz
open Nat renaming le_refl→aJ,zero_le→bc,lt_or_ge→bV,lt_trichotomy→eW,sub_self→kz,min_eq_left→nR
open Option renaming isSome_iff_exists→cM
namespace Go.Mod
open Go.Eng
set_option maxRecDepth 100000
def bP(l:List Nat):List (List D):=l.map fun n:Nat=>[.val (.int .i64 (n:Int))]
theorem SH(l:List Nat):(bP l).length=l.length:=by simp[bP]
theorem pw{l:List Nat}{i:Nat}(h:i<l.length):row (bP l) i=[.val (.int .i64 (l[i]:Int))]:=by simp[bP,row,ct,af h]
theorem CE(l:List Nat):∀y∈bP l,y.length=1:=by
 intro y hy
 obtain⟨t,_,rfl⟩:=bF.1 hy
 rfl
theorem l9(a b:List Nat):bP a++bP b=bP (a++b):=by simp[bP]
theorem Tr{l:List Nat}{i n:Nat}:(bP l).set i [.val (.int .i64 (n:Int))]=bP (l.set i n):=by simp[bP,kE]
attribute [go_sem] SH pw
theorem od{i n:Nat}(h:i<n):dV i (n-i)=i::dV (i+1) (n-(i+1)):=by
 obtain⟨k,rfl⟩:∃k,n=i+1+k:=⟨n-(i+1),by omega⟩
 have e1:i+1+k-i=k+1:=by omega
 have e2:i+1+k-(i+1)=k:=by omega
 rw[e1,e2,List.range'_succ]
theorem pE{i n:Nat}(h:n≤i):dV i (n-i)=[]:=by
 have e1:n-i=0:=by omega
 rw[e1];rfl
theorem RB(n:Int):(whole n).N=n:=rfl
theorem XO(n:Int):(whole n).D=1:=rfl
attribute [go_sem] RB XO
structure cI where
 jI:ir
 fU:List Int
 deriving DecidableEq
def cU(r:cI):List D:=[.dC (bI r.jI.aG),.val (.int .i64 r.jI.bound),.val (.bool r.jI.strict),.dC (bI r.fU)]
def eE(l:List cI):List (List D):=l.map cU
theorem Uc(l:List cI):(eE l).length=l.length:=by simp[eE]
theorem TZ{l:List cI}{i:Nat}(h:i<l.length):row (eE l) i=cU l[i]:=by simp[eE,row,ct,af h]
theorem yQ(a b:List cI):eE a++eE b=eE (a++b):=by simp[eE]
theorem uR:eE []=[]:=rfl
theorem vS(n:cI)(l:List cI):eE (n::l)=cU n::eE l:=rfl
attribute [go_sem] Uc TZ uR cU
def bS(r:cI)(v:Nat):Int:=r.jI.aG.getD v 0
def tr(n i:Nat):List Int:=(List.replicate n 0).set i 1
def bJ(ls:List ir):List cI:=(bu ls.length).map fun i=>⟨ls.getD i mO,tr ls.length i⟩
def uW(a b:cI)(v:Nat):Int:=(bM (bS a v) (-(bS b v)):Int)
def o9(a b:cI)(v:Nat):Int:=(bS a v).tdiv (uW a b v)
def pd(a b:cI)(v:Nat):Int:=(-(bS b v)).tdiv (uW a b v)
def qx(a b:cI)(v:Nat):List Int:=comb (pd a b v) (o9 a b v) a.fU b.fU
def AW(a b:cI)(v:Nat):cI:=⟨(ez a.jI (pd a b v) b.jI (o9 a b v)).1,qx a b v⟩
def tZ(a b:cI)(v:Nat):Bool:=(ez a.jI (pd a b v) b.jI (o9 a b v)).2&&(qx a b v).all fun n=>decide (n≤1000000)
def pU(a:cI)(v:Nat)(rows:List cI):List (cI×cI):=rows.filterMap fun b=>if 0<bS a v∧bS b v<0 then some (a,b) else none
def pq(all rows:List cI)(v:Nat):List (cI×cI):=rows.flatMap fun a=>pU a v all
def mJ(v:Nat):List (cI×cI)→List cI→Option (List cI)
 | [],out=>some out
 | (a,b)::ps,out=>if tZ a b v=true∧out.length<200 then mJ v ps (out++[AW a b v]) else none
def gW(rows:List cI)(v:Nat):Option (List cI):=mJ v (pq rows rows v) (rows.filter fun r=>decide (bS r v=0))
def qX(v:Nat):Nat→List Int→List Rat→Rat→Option Rat
 | i,c::cs,x::xs,sum=>if i=v then qX v (i+1) cs xs sum else if(plus sum (-c) x).2 then qX v (i+1) cs xs (plus sum (-c) x).1 else none
 | _,_,_,sum=>some sum
def zW(x:Rat×Bool):Option Rat:=if x.2 then some x.1 else none
def ng(l:ir)(v:Nat)(aB:List Rat):Option Rat:=
 match qX v 0 l.aG aB (whole l.bound) with
 | none=>none
 | some sum=>if(lA 1 (l.aG.getD v 0)).2 then zW (cE sum (lA 1 (l.aG.getD v 0)).1) else none
def lower(x:Rat):Option Rat→Bool
 | none=>true
 | some h=>c8 x h
def upper(x:Rat):Option Rat→Bool
 | none=>true
 | some l=>c8 l x
def oL(v:Nat)(aB:List Rat):List cI→Option Rat→Option Rat→Option (Option Rat×Option Rat)
 | [],lo,hi=>some (lo,hi)
 | r::rs,lo,hi=>if bS r v=0 then oL v aB rs lo hi else match ng r.jI v aB with
   | none=>none
   | some b=>if 0<bS r v then oL v aB rs lo (if lower b hi then some b else hi) else oL v aB rs (if upper b lo then some b else lo) hi
def kO:Option Rat→Option Rat→Rat×Bool
 | some l,some h=>ra l h
 | none,some h=>df h (whole (-1))
 | some l,none=>df l (whole 1)
 | none,none=>(whole 0,true)
def valueOf(rows:List cI)(v:Nat)(aB:List Rat):Option Rat:=
 match oL v aB rows none none with
 | none=>none
 | some e=>zW (kO e.1 e.2)
def mq:List (List cI)→Nat→List Rat→Option (List Rat)
 | [],_,aB=>some aB
 | rows::st,v,aB=>match valueOf rows v aB with
   | none=>none
   | some x=>mq st (v+1) (aB.set v x)
def ll:List Int→List Rat→Rat→Option Rat
 | c::cs,x::xs,sum=>if(plus sum c x).2 then ll cs xs (plus sum c x).1 else none
 | _,_,sum=>some sum
def qC(aB:List Rat):Bool:=decide (aB.length=4)&&aB.all bW
def mv(l:ir)(aB:List Rat):Option Bool:=if dU l&&qC aB then(ll l.aG aB (whole 0)).map fun x=>below x l.bound l.strict else none
def lj(list:List ir)(aB:List Rat):Bool:=fS list&&(qC aB&&list.all fun l=>decide (mv l aB=some true))
def n5:List Rat:=[whole 0,whole 0,whole 0,whole 0]
structure Far where
 aB:List Rat
 times:List Int
 code:Int
def iy(list:List ir)(s0 s1 s2 s3 rows:List cI):Far:=
 match rows.find? fun r=>jN r.jI with
 | some r=>if qm list r.fU then⟨[],r.fU,1⟩ else⟨[],[],2⟩
 | none=>match mq [s0,s1,s2,s3] 0 n5 with
   | none=>⟨[],[],2⟩
   | some aB=>if lj list aB then⟨aB,[],0⟩ else⟨[],[],2⟩
def bO(list:List ir):Far:=
 if fS list then match gW (bJ list) 3 with
  | none=>⟨[],[],2⟩
  | some r2=>match gW r2 2 with
    | none=>⟨[],[],2⟩
    | some r1=>match gW r1 1 with
      | none=>⟨[],[],2⟩
      | some r0=>match gW r0 0 with
        | none=>⟨[],[],2⟩
        | some rows=>iy list r0 r1 r2 (bJ list) rows
 else⟨[],[],3⟩
def aH(ae:List Term)(t:Term):Nat:=(bL ae t).toNat
def cl(class_:List Nat)(i:Nat):Nat:=class_.getD i 0
def gj(class_:List Nat)(a b:Nat):List Nat:=class_.map fun k=>if k=max (cl class_ a) (cl class_ b) then min (cl class_ a) (cl class_ b) else k
def Ke(ae:List Term)(class_:List Nat)(x y:Term):Bool:=decide (cl class_ (aH ae x)=cl class_ (aH ae y))
def lM(ae:List Term)(class_:List Nat):List Term→List Term→Bool
 | [],[]=>true
 | x::xs,y::ys=>Ke ae class_ x y&&lM ae class_ xs ys
 | _,_=>false
def alike(ae:List Term)(class_:List Nat)(a b:Nat):Bool:=
 decide (0<(ae.getD a aL).kids.length)&&(decide ((ae.getD a aL).name=(ae.getD b aL).name)&&lM ae class_ (ae.getD a aL).kids (ae.getD b aL).kids)
def m8(ae:List Term)(class_:List Nat)(early late:Nat):Bool:=decide (cl class_ early≠cl class_ late)&&alike ae class_ early late
def jG(from_ n:Nat):List (Nat×Nat):=(dV from_ (n-from_)).flatMap fun l=>(dV 0 l).map fun e=>(e,l)
def fK(ae:List Term)(class_:List Nat):Option (Nat×Nat):=(jG 0 ae.length).find? fun p=>m8 ae class_ p.1 p.2
def jd(ae:List Term):Nat→List fF→List Nat→List Step→List Nat×List Step
 | _,[],class_,aj=>(class_,aj)
 | n,e::es,class_,aj=>
   if cl class_ (aH ae e.A)=cl class_ (aH ae e.B) then jd ae (n+1) es class_ aj
   else jd ae (n+1) es (gj class_ (aH ae e.A) (aH ae e.B)) (aj++[⟨aH ae e.A,aH ae e.B,n⟩])
def kf(ae:List Term):Nat→List Nat→List Step→List Nat×List Step
 | 0,class_,aj=>(class_,aj)
 | f+1,class_,aj=>match fK ae class_ with
   | none=>(class_,aj)
   | some p=>kf ae f (gj class_ p.1 p.2) (aj++[⟨p.1,p.2,-1⟩])
def given(ae:List Term)(eqs:List fF):List Nat×List Step:=jd ae 0 eqs (bu ae.length) []
def closed(ae:List Term)(eqs:List fF):List Nat×List Step:=kf ae (given ae eqs).1.sum (given ae eqs).1 (given ae eqs).2
def aS(n:Nat)(aj:List Step)(k:Nat):List Nat:=(aj.take k).foldl (fun c s=>gj c s.A.toNat s.B.toNat) (bu n)
structure Edge where
 step:Nat
 back:Bool
 deriving DecidableEq
def ig(aj:List Step)(k:Nat):Step:=aj.getD k ⟨0,0,0⟩
def lR(n:Nat)(aj:List Step):Nat→Nat→Nat→List Edge
 | 0,_,_=>[]
 | k+1,a,b=>
   let c:=aS n aj k
   if cl c a=cl c b then lR n aj k a b
   else if cl c a=cl c (ig aj k).A.toNat then lR n aj k a (ig aj k).A.toNat++⟨k,false⟩::lR n aj k (ig aj k).B.toNat b
   else lR n aj k a (ig aj k).B.toNat++⟨k,true⟩::lR n aj k (ig aj k).A.toNat b
def kP(ae:List Term)(aj:List Step)(sP:Nat→Nat→Nat→ju)(e:Edge):ju:=
 let s:=ig aj e.step
 let w:ju:=if s.given<0 then .mk 5 0 (.mk (ae.getD s.A.toNat aL).name []) (((ae.getD s.A.toNat aL).kids.zip (ae.getD s.B.toNat aL).kids).map fun p=>sP e.step (aH ae p.1) (aH ae p.2)) else .mk 2 s.given aL []
 if e.back then .mk 3 0 aL [w] else w
def oQ(one:Edge→ju):ju→List Edge→ju
 | w,[]=>w
 | w,e::es=>oQ one (.mk 4 0 aL [w,one e]) es
def lu(ae:List Term)(aj:List Step):Nat→Nat→Nat→Nat→ju
 | 0,_,_,_=>sY
 | f+1,n,a,b=>match lR ae.length aj n a b with
   | []=>.mk 1 0 (ae.getD a aL) []
   | e::es=>oQ (kP ae aj (lu ae aj f)) (kP ae aj (lu ae aj f) e) es
def l8(ae:List Term)(aj:List Step)(a b:Term):ju:=lu ae aj (aj.length+1) aj.length (aH ae a) (aH ae b)
def fa(nums:List Term)(out:List Nat)(e:fF):List Nat:=
 if bL nums e.A<0∨bL nums e.B<0 then out else out.map fun k=>if k=cl out (aH nums e.A) then cl out (aH nums e.B) else k
def kq(nums:List Term)(eqs:List fF):List Nat:=eqs.foldl (fa nums) (bu nums.length)
def linked(nums:List Term)(ab:List bl)(i k:Nat):Bool:=decide (cl (kq nums (a7 ab)) i=cl (kq nums (a7 ab)) k)
def eX(nums:List Term)(ab:List bl)(i k:Nat):Bool:=ab.any fun l=>!l.no&&decide (l.atom=(dL (nums.getD i aL) (nums.getD k aL)).atom)
def dP(from_ n:Nat):List (Nat×Nat):=(dV from_ (n-from_)).flatMap fun i=>(dV (i+1) (n-(i+1))).map fun k=>(i,k)
def b7(n:Nat)(p:Nat→Nat→Bool):Option (Nat×Nat):=(dP 0 n).find? fun q=>p q.1 q.2
def gh(aq:List Term)(class_:List Nat)(a b:Term):Bool:=decide (cl class_ (aH aq a)=cl class_ (aH aq b))
def jh(aq:List Term)(class_:List Nat)(l:bl):Bool:=l.no&&(decide (l.atom.kind=1)&&gh aq class_ l.atom.A l.atom.B)
def kg{α:Type}(p:α→Bool)(l:List α):Option Nat:=(bu l.length).find? fun i=>match l[i]? with|none=>false|some x=>p x
def iT(aq nums:List Term)(class_:List Nat)(aB:List Rat)(t:Term):Rat:=if bL nums t<0 then whole (cl class_ (aH aq t)) else aB.getD (aH nums t) (whole 0)
def iH(aq nums:List Term)(class_:List Nat)(aB:List Rat)(t:Term):Row:=⟨t.name,t.kids.map (iT aq nums class_ aB),iT aq nums class_ aB t⟩
def putRow(rows:List Row)(r:Row):List Row:=
 let lo:=rows.takeWhile fun x=>decide (fl x r<0)
 let hi:=rows.dropWhile fun x=>decide (fl x r<0)
 match hi with
 | []=>lo++[r]
 | x::xs=>if fl x r=0 then rows else lo++r::x::xs
def ia(aq nums:List Term)(class_:List Nat)(aB:List Rat):List Row:=aq.foldl (fun rows t=>putRow rows (iH aq nums class_ aB t)) []
def eP(s:dI)(m:Model)(ab:List bl):Bool:=fg s m&&ab.all fun l=>decide (gn s m l=some true)
structure zV where
 model:Model
 case:Case
 code:Int
def tg:Case:=.mk 0 0 sY [] aL aL []
def mj:Model:=⟨[]⟩
def r6:zV:=⟨mj,tg,2⟩
def zf(w:ju)(r:zV):zV:=if r.code=1 then⟨mj,.mk 3 0 w [] aL aL [r.case],1⟩ else⟨r.model,tg,r.code⟩
def oc(run:List bl→zV)(a b:Term):List (List bl)→List Case→zV
 | [],out=>⟨mj,.mk 4 0 sY [] a b out,1⟩
 | l::ls,out=>if(run l).code=1 then oc run a b ls (out++[(run l).case]) else⟨(run l).model,tg,(run l).code⟩
def il(s:dI)(aq nums:List Term):Nat→List bl→zV
 | 0,_=>r6
 | f+1,ab=>
   let eqs:=a7 ab
   let c:=closed aq eqs
   let Jn:=bO (dX nums ab)
   if 12<eqs.length then r6 else
   match kg (jh aq c.1) ab with
   | some n=>⟨mj,.mk 1 n (l8 aq c.2 (ab.getD n EF).atom.A (ab.getD n EF).atom.B) [] aL aL [],1⟩
   | none=>
     if Jn.code=1 then⟨mj,.mk 2 0 sY Jn.times aL aL [],1⟩ else
     if Jn.code≠0 then r6 else
     match b7 nums.length (fun i k=>!linked nums ab i k&&gh aq c.1 (nums.getD i aL) (nums.getD k aL)) with
     | some (i,k)=>zf (l8 aq c.2 (nums.getD i aL) (nums.getD k aL)) (il s aq nums f (ab++[gx (nums.getD i aL) (nums.getD k aL)]))
     | none=>match b7 nums.length (fun i k=>!linked nums ab i k&&(!eX nums ab i k&& !eX nums ab k i)) with
       | some (i,k)=>oc (il s aq nums f) (nums.getD i aL) (nums.getD k aL) ((fm (nums.getD i aL) (nums.getD k aL)).map fun l=>ab++[l]) []
       | none=>if eP s ⟨ia aq nums c.1 Jn.aB⟩ ab then⟨⟨ia aq nums c.1 Jn.aB⟩,tg,0⟩ else r6
def eC(s:dI)(ab:List bl):zV:=if e6 s ab then il s (az ab) (numsOf s ab) 13 ab else⟨mj,tg,3⟩
theorem gQ{c:List Nat}{i:Nat}(h:i<c.length):cl c i=c[i]:=by rw[cl,ay,af h];rfl
theorem AL{c:List Nat}{i:Nat}(h:i<c.length):cl c i∈c:=by rw[gQ h];exact ak h
theorem Zp{c:List Nat}{i:Nat}(h:c.length≤i):cl c i=0:=by rw[cl,ay,bo h];rfl
theorem fP(c:List Nat)(a b:Nat):(gj c a b).length=c.length:=by simp[gj]
theorem wc{c:List Nat}{f:Nat→Nat}{i:Nat}(h:i<c.length):cl (c.map f) i=f (cl c i):=by
 rw[gQ (by simpa using h),gQ h,List.getElem_map]
theorem x9{c:List Nat}{a b i:Nat}(h:i<c.length):cl (gj c a b) i=if cl c i=max (cl c a) (cl c b) then min (cl c a) (cl c b) else cl c i:=wc h
theorem Ds{c:List Nat}{a b i k:Nat}(hi:i<c.length)(hk:k<c.length):cl (gj c a b) i=cl (gj c a b) k↔(cl c i=cl c k∨(cl c i=cl c a∧cl c k=cl c b)∨(cl c i=cl c b∧cl c k=cl c a)):=by
 rw[x9 hi,x9 hk]
 split<;>split<;>omega
theorem W0{f:Nat→Nat}(hf:∀x,f x≤x):∀l:List Nat,(l.map f).sum≤l.sum
 | []=>aJ _
 | x::l=>by
   have:=W0 hf l
   have:=hf x
   simp only[aQ,List.sum_cons]
   omega
theorem U5{f:Nat→Nat}(hf:∀x,f x≤x):∀{l:List Nat}{x:Nat},x∈l→f x<x→(l.map f).sum<l.sum
 | y::l,x,hx,h=>by
   simp only[aQ,List.sum_cons]
   have h1:=W0 hf l
   have h2:=hf y
   rcases ax.1 hx with e|e
   ·subst e;omega
   ·have:=U5 hf e h
    omega
theorem KB{c:List Nat}{a b:Nat}(ha:a<c.length)(hb:b<c.length)(h:cl c a≠cl c b):(gj c a b).sum<c.sum:=by
 refine U5 (x:=max (cl c a) (cl c b)) (fun x=>?_) ?_ ?_
 ·split<;>omega
 ·rcases Nat.le_total (cl c a) (cl c b) with h1|h1
  ·rw[Nat.max_eq_right h1];exact AL hb
  ·rw[Nat.max_eq_left h1];exact AL ha
 ·rw[if_pos rfl];omega
theorem zr{s n:Nat}{p:Nat×Nat}:p∈jG s n↔p.1<p.2∧s≤p.2∧p.2<n:=by
 obtain⟨e,l⟩:=p
 simp only[jG,fR,bF,List.mem_range'_1,Prod.mk.injEq]
 constructor
 ·rintro⟨l',h1,e',h2,rfl,rfl⟩;omega
 ·rintro⟨h1,h2,h3⟩
  exact⟨l,by omega,e,by omega,rfl,rfl⟩
theorem Hz{l n:Nat}(h:l<n):jG l n=(dV 0 (l-0)).map (fun e=>(e,l))++jG (l+1) n:=by
 unfold jG
 rw[od h]
 rfl
theorem zc{l n:Nat}(h:n≤l):jG l n=[]:=by
 unfold jG
 rw[pE h]
 rfl
theorem qf{ae:List Term}{c:List Nat}{p:Nat×Nat}(h:fK ae c=some p):p.1<p.2∧p.2<ae.length∧cl c p.1≠cl c p.2∧alike ae c p.1 p.2=true:=by
 have h1:=List.find?_some h
 have h2:=zr.1 (ff h)
 simp only[m8,ai,decide_eq_true_eq] at h1
 exact⟨h2.1,h2.2.2,h1.1,h1.2⟩
theorem Vu{x:Nat}:∀{l:List Nat},x∈l→x≤l.sum
 | y::l,h=>by
   simp only[List.sum_cons]
   rcases ax.1 h with e|e
   ·omega
   ·have:=Vu e;omega
theorem wi{ae:List Term}{f:Nat}{c:List Nat}{aj:List Step}(h:fK ae c=none):kf ae f c aj=(c,aj):=by
 cases f with
 | zero=>rfl
 | succ f=>simp only[kf,h]
theorem vr{ae:List Term}{f:Nat}{c:List Nat}{aj:List Step}{p:Nat×Nat}(hs:c.sum≤f)(hc:c.length=ae.length)(h:fK ae c=some p) :
 ∃f',f=f'+1∧kf ae f c aj=kf ae f' (gj c p.1 p.2) (aj++[⟨p.1,p.2,-1⟩])∧(gj c p.1 p.2).sum≤f':=by
 obtain⟨h1,h2,h3,h4⟩:=qf h
 have hd:=KB (c:=c) (a:=p.1) (b:=p.2) (by omega) (by omega) h3
 obtain⟨f',rfl⟩:∃f',f=f'+1:=⟨f-1,by omega⟩
 exact⟨f',rfl,by simp only[kf,h],by omega⟩
structure KT(ae:List Term)(eqs:List fF)(c:List Nat)(s:Step):Prop where
 a0:0≤s.A
 a1:s.A.toNat<ae.length
 b0:0≤s.B
 b1:s.B.toNat<ae.length
 ne:cl c s.A.toNat≠cl c s.B.toNat
 XQ:(s.given = -1∧alike ae c s.A.toNat s.B.toNat=true)∨(∃n:Nat,s.given=n∧∃e,eqs[n]?=some e∧s.A=aH ae e.A∧s.B=aH ae e.B)
def lE(ae:List Term)(eqs:List fF)(aj:List Step):Prop:=∀k s,aj[k]?=some s→KT ae eqs (aS ae.length aj k) s
theorem tY{n k:Nat}{aj more:List Step}(h:k≤aj.length):aS n (aj++more) k=aS n aj k:=by
 rw[aS,aS,List.take_append_of_le_length h]
theorem iJ(n:Nat)(aj:List Step)(k:Nat):(aS n aj k).length=n:=by
 unfold aS
 have:∀(l:List Step)(c:List Nat),(l.foldl (fun c s=>gj c s.A.toNat s.B.toNat) c).length=c.length:=by
  intro l
  induction l with
  | nil=>intro c;rfl
  | cons s l ih=>intro c;rw[gw,ih,fP]
 rw[this,fX]
theorem rH{n k:Nat}{aj:List Step}{s:Step}(h:aj[k]?=some s):aS n aj (k+1)=gj (aS n aj k) s.A.toNat s.B.toNat:=by
 obtain⟨hk,rfl⟩:=bB.1 h
 rw[aS,bq,af hk,mD]
 rfl
theorem La{ae:List Term}{eqs:List fF}{aj:List Step}{s:Step}(h:lE ae eqs aj)(hs:KT ae eqs (aS ae.length aj aj.length) s):lE ae eqs (aj++[s]):=by
 intro k t ht
 rcases eW k aj.length with h1|h1|h1
 ·rw[bf h1] at ht
  rw[tY (by omega)]
  exact h k t ht
 ·subst h1
  rw[bw (aJ _)] at ht
  simp only[kz,gH,Option.some.injEq] at ht
  rw[tY (aJ _),←ht]
  exact hs
 ·rw[bo (by simp;omega)] at ht
  cases ht
theorem Hr{n:Nat}{aj:List Step}{s:Step}:aS n (aj++[s]) (aj++[s]).length=gj (aS n aj aj.length) s.A.toNat s.B.toNat:=by
 rw[List.length_append,List.length_singleton,rH (s:=s) (by simp),tY (aJ _)]
def Kept(ae:List Term)(eqs:List fF)(x:List Nat×List Step):Prop:=lE ae eqs x.2∧x.1=aS ae.length x.2 x.2.length
theorem Ow{ae:List Term}{eqs:List fF}{x:List Nat×List Step}(h:Kept ae eqs x):x.1.length=ae.length:=by rw[h.2,iJ]
theorem Ku{ae:List Term}{eqs:List fF}{x:List Nat×List Step}{s:Step}(h:Kept ae eqs x)(hs:KT ae eqs x.1 s):Kept ae eqs (gj x.1 s.A.toNat s.B.toNat,x.2++[s]):=
 ⟨La h.1 (h.2▸hs),by rw[Hr,←h.2]⟩
theorem vK{ae:List Term}{all:List fF}(kF:∀e∈all,e.A∈ae∧e.B∈ae):∀(eqs:List fF)(n:Nat)(c:List Nat)(aj:List Step),all.drop n=eqs→Kept ae all (c,aj)→Kept ae all (jd ae n eqs c aj)
 | [],_,_,_,_,h=>h
 | e::es,n,c,aj,hd,h=>by
   have hn:all[n]?=some e:=by
    have:=congrArg (·[0]?) hd
    simpa using this
   have hd2:all.drop (n+1)=es:=by
    have:=congrArg List.tail hd
    simpa[List.tail_drop] using this
   obtain⟨hA,hB⟩:=kF e (List.mem_of_getElem? hn)
   rw[jd]
   split
   ·exact vK kF es (n+1) c aj hd2 h
   ·rename_i jD
    exact vK kF es (n+1) _ _ hd2 (Ku (s:=⟨aH ae e.A,aH ae e.B,n⟩) h ⟨iD _,by rw[bn];exact nZ hA,iD _,by rw[bn];exact nZ hB,by simpa using jD,.inr ⟨n,rfl,e,hn,rfl,rfl⟩⟩)
theorem BT{ae:List Term}{all:List fF}:∀(f:Nat)(c:List Nat)(aj:List Step),Kept ae all (c,aj)→Kept ae all (kf ae f c aj)
 | 0,_,_,h=>h
 | f+1,c,aj,h=>by
   rw[kf]
   split
   ·exact h
   ·rename_i p hp
    obtain⟨h1,h2,h3,h4⟩:=qf hp
    exact BT f _ _ (Ku (s:=⟨p.1,p.2,-1⟩) h ⟨iD _,by simp;omega,iD _,by simpa using h2,by simpa using h3,.inl ⟨rfl,by simpa using h4⟩⟩)
theorem Qi{ae:List Term}{eqs:List fF}(kF:∀e∈eqs,e.A∈ae∧e.B∈ae):Kept ae eqs (given ae eqs):=
 vK kF eqs 0 _ _ rfl ⟨fun k s h=>by simp at h,rfl⟩
theorem mH{ae:List Term}{eqs:List fF}(kF:∀e∈eqs,e.A∈ae∧e.B∈ae):Kept ae eqs (closed ae eqs):=BT _ _ _ (Qi kF)
theorem vz{ae:List Term}{eqs:List fF}{x:List Nat×List Step}(h:Kept ae eqs x):∀k,k≤x.2.length→(aS ae.length x.2 k).sum+k≤(bu ae.length).sum:=by
 intro k
 induction k with
 | zero=>intro _;exact Nat.le_of_eq (by simp[aS])
 | succ k ih=>
   intro hk
   have hs:x.2[k]?=some x.2[k]:=af (by omega)
   have h1:=ih (by omega)
   have h2:=h.1 k _ hs
   have h3:=KB (c:=aS ae.length x.2 k) (by rw[iJ];exact h2.a1) (by rw[iJ];exact h2.b1) h2.ne
   rw[rH hs]
   omega
def vA(aj:List Step)(k:Nat):Nat:=(ig aj k).A.toNat
def vB(aj:List Step)(k:Nat):Nat:=(ig aj k).B.toNat
def gK(aj:List Step)(e:Edge):Nat:=if e.back then vB aj e.step else vA aj e.step
def ix(aj:List Step)(e:Edge):Nat:=if e.back then vA aj e.step else vB aj e.step
def pO(aj:List Step):Nat→List Edge→Nat→Prop
 | a,[],b=>a=b
 | a,e::es,b=>gK aj e=a∧pO aj (ix aj e) es b
def oG(k:Nat)(es:List Edge):Prop:=∀e∈es,e.step<k
def gP(aj:List Step)(a:Nat)(es:List Edge):List Nat:=a::es.map (ix aj)
theorem ye{aj:List Step}:∀{p q:List Edge}{a b:Nat},pO aj a (p++q) b↔∃m,pO aj a p m∧pO aj m q b
 | [],q,a,b=>by simp[pO]
 | e::p,q,a,b=>by
   simp only[bA,pO,ye (p:=p)]
   constructor
   ·rintro⟨h1,m,h2,h3⟩;exact⟨m,⟨h1,h2⟩,h3⟩
   ·rintro⟨m,⟨h1,h2⟩,h3⟩;exact⟨h1,m,h2,h3⟩
theorem FK{aj:List Step}:∀{p:List Edge}{a b:Nat},pO aj a p b→b∈gP aj a p
 | [],a,b,h=>by simp[pO] at h;simp[gP,h]
 | e::p,a,b,h=>by
   have:=FK h.2
   simp only[gP,aQ,ax] at this⊢
   exact .inr this
section
variable{ae:List Term}{eqs:List fF}{aj:List Step}(e7:lE ae eqs aj)
include e7
theorem oT{k:Nat}(h:k<aj.length):KT ae eqs (aS ae.length aj k) (ig aj k):=by
 have e:=af h
 have:=e7 k _ e
 rw[ig,ay,e]
 exact this
theorem Hf{k:Nat}(h:k<aj.length):vA aj k<ae.length:=(oT e7 h).a1
theorem FT{k:Nat}(h:k<aj.length):vB aj k<ae.length:=(oT e7 h).b1
omit e7 in
theorem Ry{k:Nat}(h:k<aj.length):aS ae.length aj (k+1)=gj (aS ae.length aj k) (vA aj k) (vB aj k):=by
 rw[rH (af h),vA,vB,ig,ay,af h]
 rfl
omit e7 in
theorem Qd{k i j:Nat}(h:k<aj.length)(hi:i<ae.length)(hj:j<ae.length):cl (aS ae.length aj (k+1)) i=cl (aS ae.length aj (k+1)) j ↔
 (cl (aS ae.length aj k) i=cl (aS ae.length aj k) j∨(cl (aS ae.length aj k) i=cl (aS ae.length aj k) (vA aj k)∧cl (aS ae.length aj k) j=cl (aS ae.length aj k) (vB aj k))∨(cl (aS ae.length aj k) i=cl (aS ae.length aj k) (vB aj k)∧cl (aS ae.length aj k) j=cl (aS ae.length aj k) (vA aj k))):=by
 rw[Ry h]
 exact Ds (by rw[iJ];exact hi) (by rw[iJ];exact hj)
theorem Ka:∀{k:Nat},k≤aj.length→∀{j:Nat},j<k→cl (aS ae.length aj k) (vA aj j)=cl (aS ae.length aj k) (vB aj j)
 | 0,_,j,h=>by omega
 | k+1,hk,j,h=>by
   rw[Qd (by omega) (Hf e7 (by omega)) (FT e7 (by omega))]
   rcases bV j k with h1|h1
   ·exact .inl (Ka (by omega) h1)
   ·obtain rfl:j=k:=by omega
    exact .inr (.inl ⟨rfl,rfl⟩)
theorem yz{e:Edge}(h:e.step<aj.length):ix aj e<ae.length:=by
 unfold ix
 split
 ·exact Hf e7 h
 ·exact FT e7 h
theorem CZ{k:Nat}(hk:k≤aj.length){e:Edge}(h:e.step<k):cl (aS ae.length aj k) (gK aj e)=cl (aS ae.length aj k) (ix aj e):=by
 have:=Ka e7 hk h
 unfold gK ix
 cases e.back
 ·simpa using this
 ·simpa using this.symm
theorem yo{k:Nat}(hk:k≤aj.length):∀{es:List Edge}{a b:Nat},oG k es→pO aj a es b→cl (aS ae.length aj k) a=cl (aS ae.length aj k) b
 | [],a,b,_,h=>by simp only[pO] at h;rw[h]
 | e::es,a,b,hw,h=>by
   rw[←h.1,CZ e7 hk (hw e (by simp))]
   exact yo hk (fun x hx=>hw x (bh _ hx)) h.2
theorem LP{k:Nat}(hk:k≤aj.length):∀{es:List Edge}{a b:Nat},oG k es→pO aj a es b→a<ae.length→b<ae.length
 | [],a,b,_,h,ha=>by simp only[pO] at h;omega
 | e::es,a,b,hw,h,ha=>LP hk (fun x hx=>hw x (bh _ hx)) h.2 (yz e7 (by have:=hw e (by simp);omega))
theorem pM{k:Nat}(hk:k≤aj.length):∀{es:List Edge}{a b:Nat},oG k es→pO aj a es b→∀v∈gP aj a es,cl (aS ae.length aj k) v=cl (aS ae.length aj k) a
 | [],a,b,_,h,v,hv=>by simp[gP] at hv;rw[hv]
 | e::es,a,b,hw,h,v,hv=>by
   simp only[gP,aQ,ax] at hv
   rcases hv with e1|hv
   ·rw[e1]
   ·rw[pM hk (fun x hx=>hw x (bh _ hx)) h.2 v (by simpa[gP] using hv),←h.1]
    exact(CZ e7 hk (hw e (by simp))).symm
theorem sy:∀{k:Nat},k≤aj.length→∀{es:List Edge}{a b:Nat},a<ae.length→oG k es→pO aj a es b→(gP aj a es).Nodup→es=lR ae.length aj k a b
 | 0,_,es,a,b,_,hw,h,_=>by
   cases es with
   | nil=>rfl
   | cons e es=>exact absurd (hw e (by simp)) (by omega)
 | k+1,hk,es,a,b,ha,hw,h,hn=>by
   have hk':k≤aj.length:=by omega
   have hb:=LP e7 hk hw h ha
   rcases aa (oG k es) with kF|kF
   ·have hs:=yo e7 hk' kF h
    rw[lR,if_pos hs]
    exact sy hk' ha kF h hn
   ·-- the first edge of the last step
    have hsplit:∃p e q,es=p++e::q∧oG k p∧e.step=k:=by
     clear h hn hb
     induction es with
     | nil=>exact absurd (fun e he=>by simp at he) kF
     | cons e es ih=>
       have he:=hw e (by simp)
       rcases bV e.step k with h1|h1
       ·obtain⟨p,x,q,e1,e2,e3⟩:=ih (fun x hx=>hw x (bh _ hx)) (fun hin2=>kF fun x hx=>by
         rcases ax.1 hx with e4|e4
         ·rw[e4];exact h1
         ·exact hin2 x e4)
        refine⟨e::p,x,q,by rw[e1];rfl,fun y hy=>?_,e3⟩
        rcases ax.1 hy with e4|e4
        ·rw[e4];exact h1
        ·exact e2 y e4
       ·exact⟨[],e,es,rfl,fun x hx=>by simp at hx,by omega⟩
    obtain⟨p,e,q,rfl,hp,hek⟩:=hsplit
    obtain⟨m,w1,w2⟩:=ye.1 h
    obtain⟨w3,w4⟩:=w2
    subst w3
    have hve:gP aj a (p++e::q)=gP aj a p++gP aj (ix aj e) q:=by simp[gP]
    rw[hve] at hn
    obtain⟨n1,n2,n3⟩:=dt.1 hn
    have hq:oG k q:=by
     intro x hx
     have hx1:=hw x (by simp[hx])
     rcases bV x.step k with h1|h1
     ·exact h1
     ·exfalso
      have hxk:x.step=k:=by omega
      obtain⟨q1,q2,rfl⟩:=List.append_of_mem hx
      obtain⟨m2,u1,u2⟩:=ye.1 w4
      obtain⟨u3,u4⟩:=u2
      have hs1:gK aj e∈gP aj a p:=FK w1
      have jD:ix aj x≠ix aj e:=by
       intro he
       have:(ix aj e::(q1.map (ix aj)++ix aj x::q2.map (ix aj))).Nodup:=by simpa[gP] using n2
       have:=(cJ.1 this).1
       exact this (by simp[he])
      have hne2:ix aj x≠gK aj e:=by
       intro he
       exact n3 _ hs1 _ (by simp[gP]:ix aj x∈gP aj (ix aj e) (q1++x::q2)) he.symm
      unfold ix at jD hne2
      unfold gK at hne2
      rw[hxk,hek] at jD hne2
      cases h5:x.back<;>cases h6:e.back<;>simp[h5,h6] at jD hne2
    have lQ:gK aj e<ae.length:=LP e7 hk' hp w1 ha
    have hlt2:ix aj e<ae.length:=yz e7 (by omega)
    have hok2:=(oT e7 (k:=k) (by omega)).ne
    have i1:=sy hk' ha hp w1 n1
    have i2:=sy hk' hlt2 hq w4 n2
    have s1:=yo e7 hk' hp w1
    have s2:=yo e7 hk' hq w4
    rw[lR]
    unfold gK at i1 s1
    unfold ix at i2 s2
    rw[hek] at i1 i2 s1 s2
    obtain⟨st,bk⟩:=e
    simp only at hek
    subst hek
    cases bk
    ·simp only[aw,if_false,vA,vB] at i1 i2 s1 s2
     rw[if_neg (by rw[s1,←s2];exact hok2),if_pos s1,←i1,←i2]
    ·simp only[if_true,vA,vB] at i1 i2 s1 s2
     rw[if_neg (by rw[s1,←s2];exact fun h=>hok2 h.symm),if_neg (by rw[s1];exact fun h=>hok2 h.symm),←i1,←i2]
theorem sw:∀{k:Nat},k≤aj.length→∀{a b:Nat},a<ae.length→b<ae.length→cl (aS ae.length aj k) a=cl (aS ae.length aj k) b →
 oG k (lR ae.length aj k a b)∧pO aj a (lR ae.length aj k a b) b∧(gP aj a (lR ae.length aj k a b)).Nodup
 | 0,_,a,b,ha,hb,h=>by
   have e:∀i,i<ae.length→cl (aS ae.length aj 0) i=i:=fun i hi=>by
    rw[gQ (by rw[iJ];exact hi)]
    simp[aS]
   rw[e a ha,e b hb] at h
   subst h
   exact⟨fun x hx=>by simp[lR] at hx,rfl,by simp[lR,gP]⟩
 | k+1,hk,a,b,ha,hb,h=>by
   have hk':k≤aj.length:=by omega
   have up:∀{es:List Edge},oG k es→oG (k+1) es:=fun hw e he=>Nat.lt_succ_of_lt (hw e he)
   rw[Qd (by omega) ha hb] at h
   have hA:=Hf e7 (k:=k) (by omega)
   have hB:=FT e7 (k:=k) (by omega)
   have jD:=(oT e7 (k:=k) (by omega)).ne
   rw[lR]
   rcases aa (cl (aS ae.length aj k) a=cl (aS ae.length aj k) b) with h1|h1
   ·rw[if_pos h1]
    obtain⟨i1,i2,i3⟩:=sw hk' ha hb h1
    exact⟨up i1,i2,i3⟩
   ·rw[if_neg h1]
    rcases h with h|⟨h,h'⟩|⟨h,h'⟩
    ·exact(h1 h).elim
    ·rw[if_pos (show _=cl _ (ig aj k).A.toNat from h)]
     obtain⟨i1,i2,i3⟩:=sw hk' ha hA h
     obtain⟨j1,j2,j3⟩:=sw hk' hB hb h'.symm
     refine⟨?_,ye.2 ⟨_,i2,rfl,j2⟩,?_⟩
     ·intro x hx
      rcases aP.1 hx with e|e
      ·exact up i1 x e
      ·rcases ax.1 e with e|e
       ·rw[e];exact Nat.lt_succ_self k
       ·exact up j1 x e
     ·have hve:gP aj a (lR ae.length aj k a (vA aj k)++⟨k,false⟩::lR ae.length aj k (vB aj k) b)=gP aj a (lR ae.length aj k a (vA aj k))++gP aj (vB aj k) (lR ae.length aj k (vB aj k) b):=by simp[gP,ix]
      refine hve▸dt.2 ⟨i3,j3,fun x hx y hy e=>?_⟩
      have s1:=pM e7 hk' i1 i2 x hx
      have s2:=pM e7 hk' j1 j2 y hy
      rw[←e,s1] at s2
      exact jD (h.symm.trans s2)
    ·have h2:¬cl (aS ae.length aj k) a=cl (aS ae.length aj k) (ig aj k).A.toNat:=fun h3=>jD (h3.symm.trans h)
     rw[if_neg h2]
     obtain⟨i1,i2,i3⟩:=sw hk' ha hB h
     obtain⟨j1,j2,j3⟩:=sw hk' hA hb h'.symm
     refine⟨?_,ye.2 ⟨_,i2,rfl,j2⟩,?_⟩
     ·intro x hx
      rcases aP.1 hx with e|e
      ·exact up i1 x e
      ·rcases ax.1 e with e|e
       ·rw[e];exact Nat.lt_succ_self k
       ·exact up j1 x e
     ·have hve:gP aj a (lR ae.length aj k a (vB aj k)++⟨k,true⟩::lR ae.length aj k (vA aj k) b)=gP aj a (lR ae.length aj k a (vB aj k))++gP aj (vA aj k) (lR ae.length aj k (vA aj k) b):=by simp[gP,ix]
      refine hve▸dt.2 ⟨i3,j3,fun x hx y hy e=>?_⟩
      have s1:=pM e7 hk' i1 i2 x hx
      have s2:=pM e7 hk' j1 j2 y hy
      rw[←e,s1] at s2
      exact h2 s2
end
def iU(cu:List (Nat×Edge)):List Nat:=cu.map Prod.fst
structure Met(N:Nat)(aj:List Step)(n from_:Nat)(cu:List (Nat×Edge)):Prop where
 head:(iU cu)[0]?=some from_
 XE:(iU cu).Nodup
 lt:∀v∈iU cu,v<N
 by_:∀(j:Nat)(v:Nat)(e:Edge),cu[j]?=some (v,e)→0<j→e.step<n∧ix aj e=v∧∃i,i<j∧(iU cu)[i]?=some (gK aj e)
def Seen(aj:List Step)(n:Nat)(cu:List (Nat×Edge))(v:Nat):Prop:=∀k,k<n→(vA aj k=v→vB aj k∈iU cu)∧(vB aj k=v→vA aj k∈iU cu)
def vL(aj:List Step)(n:Nat)(cu:List (Nat×Edge))(i:Nat):Prop:=∀j v,j<i→(iU cu)[j]?=some v→Seen aj n cu v
theorem kd{N:Nat}:∀{l:List Nat},l.Nodup→(∀v∈l,v<N)→l.length≤N:=by
 intro l h1 h2
 have:=(List.nodup_range (n:=N))
 have hs:l.length≤(bu N).length:=List.Nodup.length_le_of_subset h1 fun v hv=>fq.2 (h2 v hv)
 simpa using hs
theorem uy(cu:List (Nat×Edge)):(iU cu).length=cu.length:=by simp[iU]
theorem jM(a b:List (Nat×Edge)):iU (a++b)=iU a++iU b:=by simp[iU]
theorem RG{N:Nat}{aj:List Step}{n f:Nat}{cu:List (Nat×Edge)}(h:Met N aj n f cu):cu.length≤N:=by
 rw[←uy]
 exact kd h.XE h.lt
theorem Tx{N:Nat}{aj:List Step}{n f:Nat}(hf:f<N)(e:Edge):Met N aj n f [(f,e)]:=
 ⟨rfl,by simp[iU],fun v hv=>by simp[iU] at hv;omega,fun j v e h hj=>by
  cases j with
  | zero=>omega
  | succ j=>simp at h⟩
theorem Sm{N:Nat}{aj:List Step}{n f:Nat}{cu:List (Nat×Edge)}(h:Met N aj n f cu){e:Edge}{i v:Nat}(he:e.step<n)(hi:(iU cu)[i]?=some v)(hs:gK aj e=v)(hn:ix aj e∉iU cu)(lQ:ix aj e<N) :
 Met N aj n f (cu++[(ix aj e,e)]):=by
 have hl:=uy cu
 have hi2:i<cu.length:=by rw[←hl];exact(bB.1 hi).1
 refine⟨?_,?_,?_,?_⟩
 ·rw[jM,bf (by omega)];exact h.head
 ·rw[jM]
  refine dt.2 ⟨h.XE,by simp[iU],fun x hx y hy e1=>?_⟩
  simp only[iU,aQ,dB,ax,ba,or_false] at hy
  rw[e1,hy] at hx
  exact hn hx
 ·intro x hx
  rw[jM] at hx
  rcases aP.1 hx with hx|hx
  ·exact h.lt x hx
  ·simp only[iU,aQ,dB,ax,ba,or_false] at hx
   omega
 ·intro j w x hx hj
  rcases eW j cu.length with h1|h1|h1
  ·rw[bf h1] at hx
   obtain⟨a1,a2,k,a3,a4⟩:=h.by_ j w x hx hj
   exact⟨a1,a2,k,a3,by rw[jM,bf (by omega)];exact a4⟩
  ·subst h1
   rw[bw (aJ _)] at hx
   simp only[kz,gH,Option.some.injEq,Prod.mk.injEq] at hx
   obtain⟨rfl,rfl⟩:=hx
   exact⟨he,rfl,i,hi2,by rw[jM,bf (by omega),hi,hs]⟩
  ·rw[bo (by simp;omega)] at hx
   cases hx
theorem Kq{aj:List Step}{n:Nat}{a b:List (Nat×Edge)}{v:Nat}(h:Seen aj n a v):Seen aj n (a++b) v:=fun k hk=>by
 rw[jM]
 exact⟨fun e=>dy _ ((h k hk).1 e),fun e=>dy _ ((h k hk).2 e)⟩
theorem BD{aj:List Step}{n:Nat}{a b:List (Nat×Edge)}{i:Nat}(hi:i≤a.length)(h:vL aj n a i):vL aj n (a++b) i:=fun j v hj hv=>by
 rw[jM,bf (by rw[uy];omega)] at hv
 exact Kq (h j v hj hv)
theorem LQ{aj:List Step}{n:Nat}{cu:List (Nat×Edge)}{i v:Nat}(h:vL aj n cu i)(hv:(iU cu)[i]?=some v)(hs:Seen aj n cu v):vL aj n cu (i+1):=fun j w hj hw=>by
 rcases bV j i with h1|h1
 ·exact h j w h1 hw
 ·obtain rfl:j=i:=by omega
  rw[hv] at hw
  obtain rfl:=Option.some.inj hw
  exact hs
theorem Bk{aj:List Step}{n:Nat}{cu:List (Nat×Edge)}(h:vL aj n cu cu.length):∀{es:List Edge}{a b:Nat},oG n es→pO aj a es b→a∈iU cu→b∈iU cu
 | [],a,b,_,hw,ha=>by simp only[pO] at hw;rw[←hw];exact ha
 | e::es,a,b,hi,hw,ha=>by
   obtain⟨j,hj,hj2⟩:=List.mem_iff_getElem.1 ha
   have hs:=h j a (by rw[←uy];exact hj) (by rw[af hj,hj2])
   have he:=hi e (by simp)
   refine Bk h (fun x hx=>hi x (bh _ hx)) hw.2 ?_
   have h1:=hw.1
   unfold gK at h1
   unfold ix
   cases hb:e.back
   ·rw[hb] at h1
    simp only[aw,if_false] at h1⊢
    exact(hs e.step he).1 h1
   ·rw[hb] at h1
    simp only[if_true] at h1⊢
    exact(hs e.step he).2 h1
structure WT(aj:List Step)(n to:Nat)(cu:List (Nat×Edge))(j t:Nat)(out:List Edge):Prop where
 at_:(iU cu)[j]?=some t
 in_:oG n out.reverse
 walk:pO aj t out.reverse to
 XE:(gP aj t out.reverse).Nodup
 Jn:∀w∈out.reverse.map (ix aj),∃i,j<i∧(iU cu)[i]?=some w
theorem PG{aj:List Step}{n to:Nat}{cu:List (Nat×Edge)}{j:Nat}(h:(iU cu)[j]?=some to):WT aj n to cu j to []:=
 ⟨h,fun e he=>by simp at he,rfl,by simp[gP],fun w hw=>by simp at hw⟩
theorem WW{l:List Nat}(h:l.Nodup){i j v:Nat}(hi:l[i]?=some v)(hj:l[j]?=some v):i=j:=by
 obtain⟨h1,h2⟩:=bB.1 hi
 obtain⟨h3,h4⟩:=bB.1 hj
 exact(List.getElem_inj h).1 (h2.trans h4.symm)
theorem SP{N:Nat}{aj:List Step}{n f to:Nat}{cu:List (Nat×Edge)}{j t:Nat}{out:List Edge}{e:Edge}(hm:Met N aj n f cu)(h:WT aj n to cu j t out)(he:cu[j]?=some (t,e))(hj:0<j) :
 ∃i,i<j∧WT aj n to cu i (gK aj e) (out++[e]):=by
 obtain⟨h1,h2,i,h3,h4⟩:=hm.by_ j t e he hj
 have Jn:∀w∈(out++[e]).reverse.map (ix aj),∃k,i<k∧(iU cu)[k]?=some w:=by
  intro w hw
  simp only[nz,mE,List.reverse_nil,bC,bA,aQ,ax] at hw
  rcases hw with e1|hw
  ·exact⟨j,h3,by rw[e1,h2];exact h.at_⟩
  ·obtain⟨k,k1,k2⟩:=h.Jn w hw
   exact⟨k,by omega,k2⟩
 refine⟨i,h3,h4,?_,?_,?_,Jn⟩
 ·intro x hx
  simp only[nz,mE,List.reverse_nil,bC,bA,ax] at hx
  rcases hx with e1|hx
  ·rw[e1];exact h1
  ·exact h.in_ x hx
 ·simp only[nz,mE,List.reverse_nil,bC,bA,pO,true_and]
  rw[h2]
  exact h.walk
 ·refine cJ.2 ⟨fun hmem=>?_,?_⟩
  ·obtain⟨k,k1,k2⟩:=Jn _ hmem
   have:=WW hm.XE h4 k2
   omega
  ·have:=h.XE
   simp only[nz,mE,List.reverse_nil,bC,bA,aQ]
   rw[h2]
   exact this
theorem Xb{ae:List Term}{eqs:List fF}{aj:List Step}{n f to:Nat}{cu:List (Nat×Edge)}{j:Nat}{out:List Edge}(e7:lE ae eqs aj)(hn:n≤aj.length)(hf:f<ae.length)(h:WT aj n to cu j f out):out.reverse=lR ae.length aj n f to:=
 sy e7 hn hf h.in_ h.walk h.XE
theorem mS{α:Type}{l:List α}{i:Nat}{d:α}(h:i<l.length):l.getD i d∈l:=by
 rw[ay,af h]
 exact ak h
theorem getD_at{α:Type}{l:List α}{i:Nat}{d:α}(h:i<l.length):l.getD i d=l[i]:=by
 rw[ay,af h]
 rfl
structure H9(n:Nat)(r:cI):Prop where
 jI:dU r.jI=true
 len:r.fU.length=n
 bd:∀u∈r.fU,0≤u∧u≤1000000
def xi(n:Nat)(rows:List cI):Prop:=rows.length≤200∧∀r∈rows,H9 n r
theorem H9.TU{n:Nat}{r:cI}(h:H9 n r)(v:Nat):-1000000≤bS r v∧bS r v≤1000000:=by
 obtain⟨h1,h2,_⟩:=gD.1 h.jI
 unfold bS
 rcases bV v r.jI.aG.length with h3|h3
 ·exact h2 _ (mS h3)
 ·rw[ay,bo h3]
  exact⟨by decide,by decide⟩
theorem TB(n i:Nat):(tr n i).length=n:=by simp[tr]
theorem Xs{n i:Nat}:∀u∈tr n i,0≤u∧u≤1000000:=by
 intro u hu
 rcases List.mem_or_eq_of_mem_set hu with h|h
 ·rw[(List.mem_replicate.1 h).2];omega
 ·rw[h];omega
theorem MF(ls:List ir):(bJ ls).length=ls.length:=by simp[bJ]
theorem DV{ls:List ir}(h:fS ls=true):xi ls.length (bJ ls):=by
 simp only[fS,ai,decide_eq_true_eq,cg] at h
 refine⟨by rw[MF];omega,fun r hr=>?_⟩
 simp only[bJ,bF,fq] at hr
 obtain⟨i,hi,rfl⟩:=hr
 exact⟨h.2 _ (mS hi),TB _ _,Xs⟩
theorem Fq{n:Nat}{a b:cI}{v:Nat}(ha:H9 n a)(hb:H9 n b)(h1:0<bS a v)(h2:bS b v<0) :
 (1≤uW a b v∧uW a b v≤1000000)∧(1≤o9 a b v∧o9 a b v≤1000000)∧(1≤pd a b v∧pd a b v≤1000000):=by
 have ca:=ha.TU v
 have cb:=hb.TU v
 have key:∀{x y:Int},0<x→0<y→x≤1000000→(1≤(bM x y:Int)∧(bM x y:Int)≤x)∧(1≤x.tdiv (bM x y)∧x.tdiv (bM x y)≤x):=by
  intro x y hx hy hm
  have g1:0<bM x y:=Int.gcd_pos_of_ne_zero_left _ (by omega)
  have g2:(bM x y:Int)∣x:=Int.gcd_dvd_left ..
  have g3:(bM x y:Int)≤x:=Int.le_of_dvd hx g2
  refine⟨⟨by omega,g3⟩,?_,?_⟩
  ·rw[jU (by omega)]
   exact Int.le_ediv_of_mul_le (by omega) (by omega)
  ·rw[jU (by omega)]
   exact Int.ediv_le_self _ (by omega)
 have k1:=key h1 (y:=-(bS b v)) (by omega) ca.2
 have k2:=key (x:=-(bS b v)) (y:=bS a v) (by omega) h1 (by omega)
 rw[Int.gcd_comm] at k2
 unfold o9 pd uW
 omega
theorem Rz:∀{m n:Int}{as bs:List Int},(0≤m∧m≤1000000)→(0≤n∧n≤1000000)→(∀u∈as,0≤u∧u≤1000000)→(∀u∈bs,0≤u∧u≤1000000)→∀u∈comb m n as bs,0≤u∧u≤2000000000000
 | _,_,[],_,_,_,_,_,u,hu=>by simp[comb] at hu
 | _,_,_::_,[],_,_,_,_,u,hu=>by simp[comb] at hu
 | m,n,a::as,b::bs,hm,hn,h1,h2,u,hu=>by
   simp only[comb,ax] at hu
   rcases hu with e|hu
   ·have ha:=h1 a (by simp)
    have hb:=h2 b (by simp)
    have p1:0≤m*a:=Int.mul_nonneg hm.1 ha.1
    have p2:0≤n*b:=Int.mul_nonneg hn.1 hb.1
    have p3:=(dw hm.1 hm.2 (b:=a) ⟨by omega,ha.2⟩).2
    have p4:=(dw hn.1 hn.2 (b:=b) ⟨by omega,hb.2⟩).2
    rw[e];omega
   ·exact Rz hm hn (fun x hx=>h1 x (bh _ hx)) (fun x hx=>h2 x (bh _ hx)) u hu
theorem TK{a b:ir}{m n:Int}(h:(ez a m b n).2=true):dU (ez a m b n).1=true:=by
 unfold ez jv at h⊢
 split
 ·rename_i h1
  rw[if_pos h1] at h
  split
  ·rename_i h2;exact h2
  ·rename_i h2;rw[if_neg h2] at h;cases h
 ·rename_i h1;rw[if_neg h1] at h;cases h
theorem Xj{n:Nat}{a b:cI}{v:Nat}(ha:H9 n a)(hb:H9 n b)(h1:0<bS a v)(h2:bS b v<0)(h:tZ a b v=true):H9 n (AW a b v):=by
 simp only[tZ,ai,cg,decide_eq_true_eq] at h
 obtain⟨_,hp,hq⟩:=Fq ha hb h1 h2
 refine⟨TK h.1,?_,fun u hu=>⟨?_,h.2 u hu⟩⟩
 ·show(comb _ _ _ _).length=n
  rw[ke (by rw[ha.len,hb.len]),ha.len]
 ·exact(Rz ⟨by omega,hq.2⟩ ⟨by omega,hp.2⟩ ha.bd hb.bd u hu).1
theorem Ph{a:cI}{v:Nat}{rows:List cI}{p:cI×cI}(h:p∈pU a v rows):p.1=a∧p.2∈rows∧0<bS p.1 v∧bS p.2 v<0:=by
 simp only[pU,List.mem_filterMap] at h
 obtain⟨b,hb,e⟩:=h
 split at e
 ·rename_i hc
  simp only[Option.some.injEq] at e
  rw[←e]
  exact⟨rfl,hb,hc.1,hc.2⟩
 ·cases e
theorem DU{n v:Nat}:∀{ps:List (cI×cI)}{out r:List cI},(∀p∈ps,H9 n p.1∧H9 n p.2∧0<bS p.1 v∧bS p.2 v<0)→xi n out→mJ v ps out=some r→xi n r
 | [],out,r,_,ho,h=>by
   simp only[mJ,Option.some.injEq] at h
   rw[←h];exact ho
 | (a,b)::ps,out,r,hp,ho,h=>by
   rw[mJ] at h
   split at h
   ·rename_i hc
    obtain⟨g1,g2,g3,g4⟩:=hp (a,b) (by simp)
    refine DU (fun p hq=>hp p (bh _ hq)) ⟨by simp;omega,fun x hx=>?_⟩ h
    rcases aP.1 hx with e|e
    ·exact ho.2 x e
    ·simp only[ax,ba,or_false] at e
     rw[e]
     exact Xj g1 g2 g3 g4 hc.1
   ·cases h
theorem SU{n v:Nat}{all rows:List cI}(h1:∀r∈all,H9 n r)(h2:∀r∈rows,H9 n r):∀p∈pq all rows v,H9 n p.1∧H9 n p.2∧0<bS p.1 v∧bS p.2 v<0:=by
 intro p hp
 simp only[pq,fR] at hp
 obtain⟨a,ha,hb⟩:=hp
 obtain⟨e1,e2,e3,e4⟩:=Ph hb
 exact⟨e1▸h2 a ha,h1 _ e2,e3,e4⟩
theorem kp{n v:Nat}{rows r:List cI}(h:xi n rows)(hr:gW rows v=some r):xi n r:=
 DU (SU h.2 h.2) ⟨Nat.le_trans (List.length_filter_le _ _) h.1,fun x hx=>h.2 x (List.mem_filter.1 hx).1⟩ hr
theorem DW{a:cI}{v j:Nat}{rows:List cI}(h:j<rows.length):pU a v (rows.drop j)=(if 0<bS a v∧bS rows[j] v<0 then [(a,rows[j])] else [])++pU a v (rows.drop (j+1)):=by
 unfold pU
 rw[ah h,List.filterMap_cons]
 split<;>simp_all
theorem OO{a:cI}{v:Nat}{rows:List cI}(h:¬0<bS a v):pU a v rows=[]:=by
 unfold pU
 refine List.filterMap_eq_nil_iff.2 fun b _=>?_
 rw[if_neg (by omega)]
theorem DT{v i:Nat}{all rows:List cI}(h:i<rows.length):pq all (rows.drop i) v=pU rows[i] v all++pq all (rows.drop (i+1)) v:=by
 unfold pq
 rw[ah h,List.flatMap_cons]
theorem El{α:Type}{p:α→Bool}{l:List α}{i:Nat}(h:i<l.length):(l.take (i+1)).filter p=(l.take i).filter p++(if p l[i] then [l[i]] else []):=by
 rw[bq,af h,List.filter_append]
 congr 1
 simp only[Option.toList_some,List.filter_cons,List.filter_nil]
theorem GW(xs:List Rat)(sum:Rat):ll [] xs sum=some sum:=by cases xs<;>rfl
theorem QI(v i:Nat)(xs:List Rat)(sum:Rat):qX v i [] xs sum=some sum:=by cases xs<;>rfl
theorem Nc{v i:Nat}{cs:List Int}{xs:List Rat}(h:i<cs.length)(h':i<xs.length)(sum:Rat):qX v i (cs.drop i) (xs.drop i) sum=if i=v then qX v (i+1) (cs.drop (i+1)) (xs.drop (i+1)) sum else if(plus sum (-cs[i]) xs[i]).2 then qX v (i+1) (cs.drop (i+1)) (xs.drop (i+1)) (plus sum (-cs[i]) xs[i]).1 else none:=by
 rw[ah h,ah h',qX]
theorem O7{i:Nat}{cs:List Int}{xs:List Rat}(h:i<cs.length)(h':i<xs.length)(sum:Rat):ll (cs.drop i) (xs.drop i) sum=if(plus sum cs[i] xs[i]).2 then ll (cs.drop (i+1)) (xs.drop (i+1)) (plus sum cs[i] xs[i]).1 else none:=by
 rw[ah h,ah h',ll]
theorem Nr{v i:Nat}{aB:List Rat}{rows:List cI}(h:i<rows.length)(lo hi:Option Rat):oL v aB (rows.drop i) lo hi=if bS rows[i] v=0 then oL v aB (rows.drop (i+1)) lo hi else match ng rows[i].jI v aB with
 | none=>none
 | some b=>if 0<bS rows[i] v then oL v aB (rows.drop (i+1)) lo (if lower b hi then some b else hi) else oL v aB (rows.drop (i+1)) (if upper b lo then some b else lo) hi:=by
 rw[ah h,oL]
 try rfl
theorem Eg{n d:Int}(h:(iw n d).2=false):(iw n d).1=jO:=by
 unfold iw at h⊢
 split
 ·rfl
 ·rename_i h0
  rw[if_neg h0] at h
  simp only at h⊢
  generalize (⟨_,_⟩:Rat)=x at h⊢
  cases hx:bW x
  ·simp
  ·simp[hx] at h
theorem tv{a b:Rat}(h:(df a b).2=false):(df a b).1=jO:=by
 unfold df at h⊢
 split
 ·rename_i h0;rw[if_pos h0] at h;exact Eg h
 ·rfl
theorem Ea{a b:Rat}(h:(cE a b).2=false):(cE a b).1=jO:=by
 unfold cE at h⊢
 split
 ·rename_i h0;rw[if_pos h0] at h;exact Eg h
 ·rfl
theorem Nn{a b:Rat}(h:(ra a b).2=false):(ra a b).1=jO:=by
 unfold ra at h⊢
 split
 ·rename_i h0;rw[if_pos h0] at h;exact Ea h
 ·rfl
theorem JR{x:Rat×Bool}(h:x.2=false→x.1=jO):(zW x).getD jO=x.1∧(zW x).isSome=x.2:=by
 unfold zW
 cases hx:x.2
 ·rw[if_neg (by simp),h hx];exact⟨rfl,rfl⟩
 ·rw[if_pos rfl];exact⟨rfl,rfl⟩
theorem Lw:∀{l h:Option Rat},(kO l h).2=false→(kO l h).1=jO
 | some _,some _,h=>Nn h
 | none,some _,h=>tv h
 | some _,none,h=>tv h
 | none,none,h=>by cases h
theorem sZ{rows:List cI}{v:Nat}{aB:List Rat}{st:List (List cI)}(h:valueOf rows v aB=none):mq (rows::st) v aB=none:=by
 rw[mq,h]
theorem tx{rows:List cI}{v:Nat}{aB:List Rat}{st:List (List cI)}{x:Rat}(h:valueOf rows v aB=some x):mq (rows::st) v aB=mq st (v+1) (aB.set v x):=by
 rw[mq,h]
theorem NK{l:List Rat}{i:Nat}{x:Rat}:(br l).set i (eY x)=br (l.set i x):=by simp[br,kE]
theorem qL{l:List Rat}{i:Nat}{x:Rat}(h:i<l.length):(br l).set i (sS (row (br l) i) 0 [.val (.int .i64 x.N),.val (.int .i64 x.D)])=br (l.set i x):=by
 rw[yh h,←NK]
 rfl
theorem mQ{s n:Nat}{p:Nat×Nat}:p∈dP s n↔s≤p.1∧p.1<p.2∧p.2<n:=by
 obtain⟨i,k⟩:=p
 simp only[dP,fR,bF,List.mem_range'_1,Prod.mk.injEq]
 constructor
 ·rintro⟨i',h1,k',h2,rfl,rfl⟩;omega
 ·rintro⟨h1,h2,h3⟩
  exact⟨i,by omega,k,by omega,rfl,rfl⟩
theorem Es{i n:Nat}(h:i<n):dP i n=(dV (i+1) (n-(i+1))).map (fun k=>(i,k))++dP (i+1) n:=by
 unfold dP
 rw[od h]
 rfl
theorem oX{i n:Nat}(h:n≤i):dP i n=[]:=by
 unfold dP
 rw[pE h]
 rfl
theorem lp{n:Nat}{p:Nat→Nat→Bool}{q:Nat×Nat}(h:b7 n p=some q):q.1<q.2∧q.2<n∧p q.1 q.2=true:=by
 have h1:=List.find?_some h
 have h2:=mQ.1 (ff h)
 exact⟨h2.2.1,h2.2.2,h1⟩
theorem xQ{n:Nat}{p:Nat→Nat→Bool}(h:b7 n p=none){i k:Nat}(h1:i<k)(h2:k<n):p i k=false:=by
 have:=List.find?_eq_none.1 h (i,k) (mQ.2 ⟨bc _,h1,h2⟩)
 simpa using this
theorem countP_le{α:Type}{p q:α→Bool}:∀{l:List α},(∀x∈l,p x=true→q x=true)→l.countP p≤l.countP q
 | [],_=>aJ _
 | x::l,h=>by
   have:=countP_le (l:=l) fun y hy=>h y (bh _ hy)
   have hx:=h x (by simp)
   simp only[List.countP_cons]
   cases hp:p x
   ·simp;omega
   ·simp[hx hp];omega
theorem CF{α:Type}{p q:α→Bool}:∀{l:List α}{x:α},(∀x∈l,p x=true→q x=true)→x∈l→p x=false→q x=true→l.countP p<l.countP q
 | y::l,x,h,hx,hp,hq=>by
   simp only[List.countP_cons]
   rcases ax.1 hx with e|e
   ·have:=countP_le (l:=l) fun y hy=>h y (bh _ hy)
    rw[←e,hp,hq]
    simp;omega
   ·have:=CF (l:=l) (fun y hy=>h y (bh _ hy)) e hp hq
    have hy:=h y (by simp)
    cases hpy:p y
    ·simp;omega
    ·simp[hy hpy];omega
theorem vT(nums:List Term)(out:List Nat)(e:fF):(fa nums out e).length=out.length:=by
 unfold fa
 split<;>simp
theorem rG(nums:List Term)(eqs:List fF):(kq nums eqs).length=nums.length:=by
 unfold kq
 have:∀(l:List fF)(c:List Nat),(l.foldl (fa nums) c).length=c.length:=by
  intro l
  induction l with
  | nil=>intro c;rfl
  | cons s l ih=>intro c;rw[gw,ih,vT]
 rw[this,fX]
theorem Hk(nums:List Term)(eqs:List fF)(e:fF):kq nums (eqs++[e])=fa nums (kq nums eqs) e:=by
 rw[kq,mD];rfl
theorem I3{nums:List Term}{out:List Nat}{e:fF}{i k:Nat}(hi:i<out.length)(hk:k<out.length)(h:cl out i=cl out k):cl (fa nums out e) i=cl (fa nums out e) k:=by
 unfold fa
 split
 ·exact h
 ·rw[wc hi,wc hk,h]
theorem Jv(a b:List bl):a7 (a++b)=a7 a++a7 b:=by simp[a7]
theorem O2(a b:Term):a7 [gx a b]=[⟨a,b⟩]:=rfl
theorem Nl{nums:List Term}{ab more:List bl}{i k:Nat}(hi:i<nums.length)(hk:k<nums.length)(h:linked nums ab i k=true):linked nums (ab++more) i k=true:=by
 simp only[linked,decide_eq_true_eq] at h⊢
 rw[Jv]
 generalize a7 more=es
 generalize a7 ab=ds at h
 induction es generalizing ds with
 | nil=>rw[bm];exact h
 | cons e es ih=>
   have:=ih (ds++[e]) (by
    rw[Hk]
    exact I3 (by rw[rG];exact hi) (by rw[rG];exact hk) h)
   rw[bj] at this
   exact this
theorem jK{nums:List Term}(hn:nums.Nodup){i:Nat}(hi:i<nums.length):bL nums nums[i]=i:=by
 have hm:nums[i]∈nums:=ak hi
 have h1:=iZ hm
 have h2:=cR.2 hm
 obtain⟨h3,h4⟩:=bB.1 h1
 have:=(List.getElem_inj hn).1 h4
 omega
theorem fc{nums:List Term}{i:Nat}(hi:i<nums.length):nums.getD i aL=nums[i]:=by
 rw[ay,af hi];rfl
theorem Qc{nums:List Term}(hn:nums.Nodup){ab:List bl}{i k:Nat}(hi:i<nums.length)(hk:k<nums.length):linked nums (ab++[gx (nums.getD i aL) (nums.getD k aL)]) i k=true:=by
 simp only[linked,decide_eq_true_eq]
 rw[Jv,O2,Hk,fa,fc hi,fc hk]
 have e1:=jK hn hi
 have e2:=jK hn hk
 simp only[e1,e2,aH,bn]
 rw[if_neg (by omega),wc (by rw[rG];exact hi),wc (by rw[rG];exact hk)]
 simp
theorem D9{nums:List Term}{ab more:List bl}{i k:Nat}(h:eX nums ab i k=true):eX nums (ab++more) i k=true:=by
 simp only[eX,List.any_append,Bool.or_eq_true] at h⊢
 exact .inl h
theorem HU(a b:Term):(dL a b).no=false:=by
 unfold dL
 split<;>rfl
theorem G7{nums:List Term}{ab:List bl}{i k:Nat}:eX nums (ab++[dL (nums.getD i aL) (nums.getD k aL)]) i k=true:=by
 simp[eX,HU]
def qQ(nums:List Term)(ab:List bl)(i k:Nat):Bool:=!linked nums ab i k&&(!eX nums ab i k&& !eX nums ab k i)
def room(nums:List Term)(ab:List bl):Nat:=(dP 0 nums.length).countP (fun q=>!linked nums ab q.1 q.2)+(dP 0 nums.length).countP (fun q=>qQ nums ab q.1 q.2)
theorem vf{nums:List Term}{ab more:List bl}:∀q∈dP 0 nums.length,(!linked nums (ab++more) q.1 q.2)=true→(!linked nums ab q.1 q.2)=true:=by
 intro q hq h
 have hm:=mQ.1 hq
 cases hl:linked nums ab q.1 q.2
 ·rfl
 ·rw[Nl (by omega) (by omega) hl] at h;cases h
theorem NL{nums:List Term}{ab more:List bl}:∀q∈dP 0 nums.length,qQ nums (ab++more) q.1 q.2=true→qQ nums ab q.1 q.2=true:=by
 intro q hq h
 simp only[qQ,ai] at h⊢
 refine⟨vf q hq h.1,?_,?_⟩
 ·cases hl:eX nums ab q.1 q.2
  ·rfl
  ·rw[D9 hl] at h;simp at h
 ·cases hl:eX nums ab q.2 q.1
  ·rfl
  ·have:=h.2.2;rw[D9 hl] at this;cases this
theorem XS{nums:List Term}(hn:nums.Nodup){ab:List bl}{i k:Nat}(h1:i<k)(h2:k<nums.length)(h:linked nums ab i k=false):room nums (ab++[gx (nums.getD i aL) (nums.getD k aL)])<room nums ab:=by
 unfold room
 have a:=CF (x:=(i,k)) (vf (more:=[gx (nums.getD i aL) (nums.getD k aL)])) (mQ.2 ⟨bc _,h1,h2⟩) (by show(!linked nums (ab++[gx (nums.getD i aL) (nums.getD k aL)]) i k)=false;rw[Qc hn (show i<nums.length by omega) h2];rfl) (by rw[h];rfl)
 have b:=countP_le (NL (nums:=nums) (ab:=ab) (more:=[gx (nums.getD i aL) (nums.getD k aL)]))
 omega
theorem Kv{nums:List Term}{ab:List bl}{i k:Nat}(h1:i<k)(h2:k<nums.length)(h:qQ nums ab i k=true){l:bl}(hl:l=dL (nums.getD i aL) (nums.getD k aL)∨l=dL (nums.getD k aL) (nums.getD i aL)):room nums (ab++[l])<room nums ab:=by
 unfold room
 have a:=countP_le (vf (nums:=nums) (ab:=ab) (more:=[l]))
 have b:=CF (x:=(i,k)) (NL (nums:=nums) (ab:=ab) (more:=[l])) (mQ.2 ⟨bc _,h1,h2⟩) (by
  rcases hl with rfl|rfl
  ·simp only[qQ,G7];simp
  ·simp only[qQ,G7];simp) h
 omega
theorem room_le{nums:List Term}(h:nums.length≤4)(ab:List bl):room nums ab≤12:=by
 have a:=List.countP_le_length (p:=fun q:Nat×Nat=>!linked nums ab q.1 q.2) (l:=dP 0 nums.length)
 have b:=List.countP_le_length (p:=fun q:Nat×Nat=>qQ nums ab q.1 q.2) (l:=dP 0 nums.length)
 have c:(dP 0 nums.length).length≤6:=by
  have key:∀n,n≤4→(dP 0 n).length≤6:=by decide
  exact key _ h
 unfold room
 omega
def pG(aj:List Step)(v i:Nat):Option Edge:=if vB aj i=v then some ⟨i,true⟩ else if vA aj i=v then some ⟨i,false⟩ else none
def vt(rec_:Nat→List Nat→Option (List Edge))(aj:List Step)(v:Nat)(eh:List Nat):List Nat→Option (List Edge)
 | []=>none
 | i::is=>match pG aj v i with
   | none=>vt rec_ aj v eh is
   | some e=>if ix aj e∈eh then vt rec_ aj v eh is else match rec_ (ix aj e) (eh++[ix aj e]) with
     | none=>vt rec_ aj v eh is
     | some r=>some (e::r)
def ud(aj:List Step)(n to:Nat):Nat→Nat→List Nat→Option (List Edge)
 | 0,_,_=>none
 | f+1,v,eh=>if v=to then some [] else vt (ud aj n to f) aj v eh (bu n)
def uZ(e:Edge):Int:=if e.back then -1-(e.step:Int) else e.step
theorem Oq{aj:List Step}{v i:Nat}{e:Edge}(h:pG aj v i=some e):e.step=i∧gK aj e=v:=by
 unfold pG at h
 split at h
 ·rename_i h1;simp only[Option.some.injEq] at h;rw[←h];exact⟨rfl,h1⟩
 ·split at h
  ·rename_i h1;simp only[Option.some.injEq] at h;rw[←h];exact⟨rfl,h1⟩
  ·cases h
def Found(aj:List Step)(n to v:Nat)(eh:List Nat)(es:List Edge):Prop:=oG n es∧pO aj v es to∧(gP aj v es).Nodup∧∀w∈es.map (ix aj),w∉eh
theorem HH{aj:List Step}{n to v:Nat}{eh:List Nat}{rec_:Nat→List Nat→Option (List Edge)}(hv:v∈eh)(hr:∀w seen' es,w∈seen'→rec_ w seen'=some es→Found aj n to w seen' es) :
 ∀{is:List Nat}{es:List Edge},(∀i∈is,i<n)→vt rec_ aj v eh is=some es→Found aj n to v eh es
 | [],es,_,h=>by cases h
 | i::is,es,hi,h=>by
   have more:=HH (is:=is) (es:=es) hv hr fun j hj=>hi j (bh _ hj)
   simp only[vt] at h
   split at h
   ·exact more h
   ·rename_i e he
    obtain⟨h1,h2⟩:=Oq he
    split at h
    ·exact more h
    ·rename_i hs
     split at h
     ·exact more h
     ·rename_i r jl
      simp only[Option.some.injEq] at h
      obtain⟨a1,a2,a3,a4⟩:=hr _ _ _ (by simp) jl
      rw[←h]
      refine⟨fun x hx=>?_,⟨h2,a2⟩,?_,?_⟩
      ·rcases ax.1 hx with e1|hx
       ·rw[e1,h1];exact hi i (by simp)
       ·exact a1 x hx
      ·refine cJ.2 ⟨fun hm=>?_,?_⟩
       ·simp only[aQ,ax] at hm
        rcases hm with e1|hm
        ·rw[e1] at hv;exact hs hv
        ·exact a4 v hm (dy _ hv)
       ·exact a3
      ·intro w hw hws
       simp only[aQ,ax] at hw
       rcases hw with e1|hw
       ·rw[e1] at hws;exact hs hws
       ·exact a4 w hw (dy _ hws)
theorem Ha{aj:List Step}{n to:Nat}:∀(f v:Nat)(eh:List Nat)(es:List Edge),v∈eh→ud aj n to f v eh=some es→Found aj n to v eh es
 | 0,_,_,_,_,h=>by cases h
 | f+1,v,eh,es,hv,h=>by
   rw[ud] at h
   split at h
   ·rename_i e
    simp only[Option.some.injEq] at h
    rw[←h]
    exact⟨fun x hx=>by simp at hx,e,by simp[gP],fun w hw=>by simp at hw⟩
   ·exact HH hv (fun w s es hw hr=>Ha f w s es hw hr) (fun i hi=>fq.1 hi) h
theorem Kb{aj:List Step}{v:Nat}{eh:List Nat}{rec_:Nat→List Nat→Option (List Edge)}{e:Edge}(he:pG aj v e.step=some e)(hs:ix aj e∉eh)(hr:(rec_ (ix aj e) (eh++[ix aj e])).isSome=true) :
 ∀{is:List Nat},e.step∈is→(vt rec_ aj v eh is).isSome=true
 | i::is,hm=>by
   rcases ax.1 hm with e1|hm
   ·subst e1
    simp only[vt,he,if_neg hs]
    obtain⟨r,jl⟩:=cM.1 hr
    simp[jl]
   ·have more:=Kb he hs hr hm
    simp only[vt]
    split
    ·exact more
    ·split
     ·exact more
     ·split
      ·exact more
      ·rfl
section
variable{ae:List Term}{eqs:List fF}{aj:List Step}(e7:lE ae eqs aj)
include e7
theorem N2{e:Edge}(h:e.step<aj.length):pG aj (gK aj e) e.step=some e:=by
 have jD:=(oT e7 h).ne
 obtain⟨k,b⟩:=e
 unfold pG gK
 cases b
 ·simp only[aw,if_false]
  rw[if_neg (fun he=>jD (by simp only[vA,vB] at he;rw[he])),if_pos True.intro]
 ·simp
theorem J2{n to:Nat}(hn:n≤aj.length):∀(es:List Edge)(f v:Nat)(eh:List Nat),eh.Nodup→(∀w∈eh,w<ae.length)→ae.length+1≤f+eh.length→oG n es→pO aj v es to→(gP aj v es).Nodup→(∀w∈es.map (ix aj),w∉eh) →
 (ud aj n to f v eh).isSome=true
 | es,0,v,eh,h1,h2,h3,_,_,_,_=>by
   have:=kd h1 h2
   omega
 | [],f+1,v,eh,_,_,_,_,hw,_,_=>by
   simp only[pO] at hw
   rw[ud,if_pos hw];rfl
 | e::es,f+1,v,eh,h1,h2,h3,hi,hw,hnd,hs=>by
   have he:=hi e (by simp)
   obtain⟨w1,w2⟩:=hw
   have hto:to∈(e::es).map (ix aj):=by
    have:=FK w2
    simpa[gP] using this
   have hv:v≠to:=fun h=>(cJ.1 hnd).1 (h▸hto)
   rw[ud,if_neg hv]
   have hen:ix aj e∉eh:=hs _ (by simp)
   refine Kb (e:=e) (by rw[←w1];exact N2 e7 (by omega)) hen ?_ (fq.2 he)
   refine J2 hn es f _ _ (dt.2 ⟨h1,by simp,fun x hx y hy e1=>?_⟩) (fun w hw=>?_) (by simp;omega) (fun x hx=>hi x (bh _ hx)) w2 (cJ.1 hnd).2 (fun w hw hws=>?_)
   ·simp only[ax,ba,or_false] at hy
    rw[e1,hy] at hx
    exact hen hx
   ·rcases aP.1 hw with hw|hw
    ·exact h2 w hw
    ·simp only[ax,ba,or_false] at hw
     rw[hw];exact yz e7 (by omega)
   ·rcases aP.1 hws with hws|hws
    ·exact hs w (by simp only[aQ,ax];exact .inr hw) hws
    ·simp only[ax,ba,or_false] at hws
     have:=(cJ.1 (cJ.1 hnd).2).1
     rw[hws] at hw
     exact this hw
theorem XL{n a b:Nat}(hn:n≤aj.length)(ha:a<ae.length)(hb:b<ae.length)(h:cl (aS ae.length aj n) a=cl (aS ae.length aj n) b):ud aj n b ae.length a [a]=some (lR ae.length aj n a b):=by
 obtain⟨i1,i2,i3⟩:=sw e7 hn ha hb h
 have hsome:=J2 e7 hn (to:=b) _ ae.length a [a] (by simp) (fun w hw=>by simp at hw;omega) (by simp) i1 i2 i3 (fun w hw hws=>by
  simp only[ax,ba,or_false] at hws
  rw[hws] at hw
  exact(cJ.1 i3).1 hw)
 obtain⟨es,he⟩:=cM.1 hsome
 obtain⟨f1,f2,f3,f4⟩:=Ha _ _ _ _ (by simp) he
 rw[he,sy e7 hn ha f1 f2 f3]
end
theorem Q6{n:Int}:lA n 0=(jO,false):=by
 unfold lA iw
 split<;>simp
theorem GZ{n d:Int}(h:1000000000<rz n∨1000000000<rz d):lA n d=(jO,false):=by
 unfold lA
 rw[if_neg]
 simp only[ai,dk]
 rintro⟨h1,h2⟩
 have:=tz.2 h1
 have:=tz.2 h2
 omega
theorem Us{n d:Int}(h1:rz n≤1000000000)(h2:rz d≤1000000000):lA n d=iw n d:=by
 unfold lA
 rw[if_pos]
 simp only[ai,dk]
 exact⟨tz.1 h1,tz.1 h2⟩
theorem MN{n d:Int}(h0:¬d=0)(h:d<0):iw n d=iw (-n) (-d):=by
 have h2:¬ -d<0:=by omega
 have h3:¬ -d=0:=by omega
 unfold iw
 simp only[if_neg h0,if_pos h,if_neg h2,if_neg h3]
def th:List Int→List Rat→Rat→Rat×Bool
 | c::cs,x::xs,sum=>if(cE (whole c) x).2 then(if(df sum (cE (whole c) x).1).2 then th cs xs (df sum (cE (whole c) x).1).1 else(jO,false)) else(sum,false)
 | _,_,sum=>(sum,true)
theorem Hn:∀{cs:List Int}{xs:List Rat}{sum:Rat},ll cs xs sum=zW (th cs xs sum)
 | [],_,sum=>rfl
 | _::_,[],sum=>rfl
 | c::cs,x::xs,sum=>by
   rw[ll,th]
   rcases kL (cE (whole c) x).2 with h1|h1
   ·have e:plus sum c x=df sum (cE (whole c) x).1:=by rw[plus,if_pos h1]
    rw[e,if_pos h1]
    rcases kL (df sum (cE (whole c) x).1).2 with h2|h2
    ·rw[if_pos h2,if_pos h2]
     exact Hn
    ·rw[if_neg (by rw[h2];simp),if_neg (by rw[h2];simp)]
     rfl
   ·have e:plus sum c x=(jO,false):=by rw[plus,if_neg (by rw[h1];simp)]
    rw[e,if_neg (by simp),if_neg (by rw[h1];simp)]
    rfl
theorem QH{i:Nat}{cs:List Int}{xs:List Rat}(h:i<cs.length)(h':i<xs.length)(sum:Rat):th (cs.drop i) (xs.drop i) sum=if(cE (whole cs[i]) xs[i]).2 then(if(df sum (cE (whole cs[i]) xs[i]).1).2 then th (cs.drop (i+1)) (xs.drop (i+1)) (df sum (cE (whole cs[i]) xs[i]).1).1 else(jO,false)) else(sum,false):=by
 rw[ah h,ah h',th]
theorem SZ(xs:List Rat)(sum:Rat):th [] xs sum=(sum,true):=by cases xs<;>rfl
theorem Jy:∀{cs:List Int}{xs:List Rat}{sum r:Rat},bW sum=true→ll cs xs sum=some r→bW r=true
 | [],_,sum,r,h,e=>by simp only[ll,Option.some.injEq] at e;rw[←e];exact h
 | _::_,[],sum,r,h,e=>by simp only[ll,Option.some.injEq] at e;rw[←e];exact h
 | c::cs,x::xs,sum,r,h,e=>by
   simp only[ll] at e
   split at e
   ·rename_i h1;exact Jy (RN h1) e
   ·cases e
def nw(v:Nat):Nat→List Int→List Rat→Rat→Rat×Bool
 | i,c::cs,x::xs,sum=>if i=v then nw v (i+1) cs xs sum else if(cE (whole (-c)) x).2 then(if(df sum (cE (whole (-c)) x).1).2 then nw v (i+1) cs xs (df sum (cE (whole (-c)) x).1).1 else(jO,false)) else(sum,false)
 | _,_,_,sum=>(sum,true)
theorem Dd{v:Nat}:∀{i:Nat}{cs:List Int}{xs:List Rat}{sum:Rat},qX v i cs xs sum=zW (nw v i cs xs sum)
 | _,[],_,sum=>rfl
 | _,_::_,[],sum=>rfl
 | i,c::cs,x::xs,sum=>by
   rw[qX,nw]
   split
   ·exact Dd
   ·rcases kL (cE (whole (-c)) x).2 with h1|h1
    ·have e:plus sum (-c) x=df sum (cE (whole (-c)) x).1:=by rw[plus,if_pos h1]
     rw[e,if_pos h1]
     rcases kL (df sum (cE (whole (-c)) x).1).2 with h2|h2
     ·rw[if_pos h2,if_pos h2]
      exact Dd
     ·rw[if_neg (by rw[h2];simp),if_neg (by rw[h2];simp)]
      rfl
    ·have e:plus sum (-c) x=(jO,false):=by rw[plus,if_neg (by rw[h1];simp)]
     rw[e,if_neg (by simp),if_neg (by rw[h1];simp)]
     rfl
theorem Ou{v i:Nat}{cs:List Int}{xs:List Rat}(h:i<cs.length)(h':i<xs.length)(sum:Rat):nw v i (cs.drop i) (xs.drop i) sum=if i=v then nw v (i+1) (cs.drop (i+1)) (xs.drop (i+1)) sum else if(cE (whole (-cs[i])) xs[i]).2 then(if(df sum (cE (whole (-cs[i])) xs[i]).1).2 then nw v (i+1) (cs.drop (i+1)) (xs.drop (i+1)) (df sum (cE (whole (-cs[i])) xs[i]).1).1 else(jO,false)) else(sum,false):=by
 rw[ah h,ah h',nw]
theorem QP(v i:Nat)(xs:List Rat)(sum:Rat):nw v i [] xs sum=(sum,true):=by cases xs<;>rfl
def gI(l:ir)(v:Nat)(aB:List Rat):Rat×Bool:=
 if(nw v 0 l.aG aB (whole l.bound)).2 then(if(lA 1 (l.aG.getD v 0)).2 then cE (nw v 0 l.aG aB (whole l.bound)).1 (lA 1 (l.aG.getD v 0)).1 else((nw v 0 l.aG aB (whole l.bound)).1,false)) else((nw v 0 l.aG aB (whole l.bound)).1,false)
theorem Q4{l:ir}{v:Nat}{aB:List Rat}:ng l v aB=zW (gI l v aB):=by
 unfold ng gI
 rw[Dd]
 generalize nw v 0 l.aG aB (whole l.bound)=r
 generalize lA 1 (l.aG.getD v 0)=b
 obtain⟨r,o⟩:=r
 obtain⟨b,p⟩:=b
 cases o<;>cases p<;>simp[zW]
def oe(v:Nat):List (cI×cI)→List cI→List cI×Bool
 | [],out=>(out,true)
 | (a,b)::ps,out=>if tZ a b v=true∧out.length<200 then oe v ps (out++[AW a b v]) else(out,false)
def I4{α:Type}(x:α×Bool):Option α:=if x.2 then some x.1 else none
theorem Bu{v:Nat}:∀{ps:List (cI×cI)}{out:List cI},mJ v ps out=I4 (oe v ps out)
 | [],out=>rfl
 | (a,b)::ps,out=>by
   rw[mJ,oe]
   split
   ·exact Bu
   ·rfl
def qq(rows:List cI)(v:Nat):List cI×Bool:=oe v (pq rows rows v) (rows.filter fun r=>decide (bS r v=0))
theorem Nf{rows:List cI}{v:Nat}:gW rows v=I4 (qq rows v):=Bu
theorem vo{rows:List cI}{v:Nat}(h:(qq rows v).2=false):gW rows v=none:=by rw[Nf,I4,h];rfl
theorem vH{rows:List cI}{v:Nat}(h:(qq rows v).2=true):gW rows v=some (qq rows v).1:=by rw[Nf,I4,h];rfl
def iG(v:Nat)(aB:List Rat):List cI→Option Rat→Option Rat→(Option Rat×Option Rat)×Bool
 | [],lo,hi=>((lo,hi),true)
 | r::rs,lo,hi=>if bS r v=0 then iG v aB rs lo hi else
   if(gI r.jI v aB).2 then
    (if 0<bS r v then iG v aB rs lo (if lower (gI r.jI v aB).1 hi then some (gI r.jI v aB).1 else hi) else iG v aB rs (if upper (gI r.jI v aB).1 lo then some (gI r.jI v aB).1 else lo) hi)
   else((lo,hi),false)
theorem Bq{v:Nat}{aB:List Rat}:∀{rows:List cI}{lo hi:Option Rat},oL v aB rows lo hi=I4 (iG v aB rows lo hi)
 | [],lo,hi=>rfl
 | r::rs,lo,hi=>by
   rw[oL,iG,Q4,zW]
   split
   ·exact Bq
   ·generalize gI r.jI v aB=b
    obtain⟨b,ok⟩:=b
    cases ok
    ·rfl
    ·simp only[if_true]
     split
     ·exact Bq
     ·exact Bq
theorem Q9{v i:Nat}{aB:List Rat}{rows:List cI}(h:i<rows.length)(lo hi:Option Rat):iG v aB (rows.drop i) lo hi=if bS rows[i] v=0 then iG v aB (rows.drop (i+1)) lo hi else
 if(gI rows[i].jI v aB).2 then
  (if 0<bS rows[i] v then iG v aB (rows.drop (i+1)) lo (if lower (gI rows[i].jI v aB).1 hi then some (gI rows[i].jI v aB).1 else hi) else iG v aB (rows.drop (i+1)) (if upper (gI rows[i].jI v aB).1 lo then some (gI rows[i].jI v aB).1 else lo) hi)
 else((lo,hi),false):=by
 rw[ah h,iG]
def wG:List (List cI)→Nat→List Rat→List Rat×Bool
 | [],_,aB=>(aB,true)
 | rows::st,v,aB=>
   if(iG v aB rows none none).2 then
    (if(kO (iG v aB rows none none).1.1 (iG v aB rows none none).1.2).2 then wG st (v+1) (aB.set v (kO (iG v aB rows none none).1.1 (iG v aB rows none none).1.2).1)
     else(aB.set v (kO (iG v aB rows none none).1.1 (iG v aB rows none none).1.2).1,false))
   else(aB,false)
theorem OL:∀{st:List (List cI)}{v:Nat}{aB:List Rat},mq st v aB=I4 (wG st v aB)
 | [],v,aB=>rfl
 | rows::st,v,aB=>by
   rw[mq,wG,valueOf,Bq,I4]
   generalize iG v aB rows none none=b
   obtain⟨⟨lo,hi⟩,ok⟩:=b
   cases ok
   ·rfl
   ·simp only[if_true,zW]
    generalize kO lo hi=c
    obtain⟨c,ok⟩:=c
    cases ok
    ·rfl
    ·exact OL
theorem PB{st:List (List cI)}{i:Nat}(h:i<st.length)(aB:List Rat):wG (st.drop i) i aB =
 if(iG i aB st[i] none none).2 then
  (if(kO (iG i aB st[i] none none).1.1 (iG i aB st[i] none none).1.2).2 then wG (st.drop (i+1)) (i+1) (aB.set i (kO (iG i aB st[i] none none).1.1 (iG i aB st[i] none none).1.2).1)
   else(aB.set i (kO (iG i aB st[i] none none).1.1 (iG i aB st[i] none none).1.2).1,false))
 else(aB,false):=by
 rw[ah h,wG]
def Qb(rows:List cI):List Int:=match rows.find? fun r=>jN r.jI with|some r=>r.fU|none=>[]
theorem TX(v:Nat):gW [] v=some []:=rfl
def ph(l:List (List cI)):List (List D):=l.map fun x=>[.dC (eE x)]
theorem PD(l:List (List cI)):(ph l).length=l.length:=by simp[ph]
theorem pR{l:List (List cI)}{i:Nat}(h:i<l.length):row (ph l) i=[.dC (eE l[i])]:=by simp[ph,row,ct,af h]
theorem vC{l:List (List cI)}{i:Nat}{x:List cI}(h:i<l.length):(ph l).set i (sS (row (ph l) i) 0 [.dC (eE x)])=ph (l.set i x):=by
 rw[pR h]
 simp[ph,kE,sS]
attribute [go_sem] PD pR
def gU(ae:List Term):Prop:=∀t∈ae,∀k∈t.kids,k∈ae
theorem bz{ae:List Term}{t:Term}(h:t∈ae):aH ae t<ae.length:=nZ h
theorem b9{ae:List Term}{t:Term}(h:t∈ae):bL ae t=(aH ae t:Int):=by
 have:=cR.2 h
 unfold aH
 omega
theorem Dz{ae:List Term}{c:List Nat}{xs ys:List Term}{i:Nat}(h:i<xs.length)(h':i<ys.length):lM ae c (xs.drop i) (ys.drop i)=(Ke ae c xs[i] ys[i]&&lM ae c (xs.drop (i+1)) (ys.drop (i+1))):=by
 rw[ah h,ah h',lM]
theorem Gx{ae:List Term}{c:List Nat}:lM ae c [] []=true:=rfl
theorem Ar{ae:List Term}{c:List Nat}:∀{xs ys:List Term},xs.length≠ys.length→lM ae c xs ys=false
 | [],[],h=>(h rfl).elim
 | [],_::_,_=>rfl
 | _::_,[],_=>rfl
 | x::xs,y::ys,h=>by
   rw[lM,Ar (by simpa using h),Bool.and_false]
def fQ(c:List Nat)(from_ to i:Nat):List Nat:=((c.take i).map fun k=>if k=from_ then to else k)++c.drop i
theorem rS(c:List Nat)(f t i:Nat):(fQ c f t i).length=c.length:=by simp[fQ];omega
theorem rK{c:List Nat}{f t i:Nat}(h:i<c.length)(h':i<(fQ c f t i).length):(fQ c f t i)[i]=c[i]:=by
 have:(fQ c f t i)[i]?=some c[i]:=by
  unfold fQ
  rw[bw (by simp;omega)]
  simp only[dF,bT,nR (Nat.le_of_lt h),kz,List.getElem?_drop,Nat.add_zero]
  exact af h
 exact(bB.1 this).2
theorem qn{c:List Nat}{f t i:Nat}(h:i<c.length):fQ c f t (i+1)=(fQ c f t i).set i (if c[i]=f then t else c[i]):=by
 have e:((c.take i).map fun k=>if k=f then t else k).length=i:=by
  rw[dF,bT,nR (Nat.le_of_lt h)]
 unfold fQ
 rw[List.set_append_right _ _ (by omega),e,kz,ah h,List.set_cons_zero,bq,af h,cK,bj]
 rfl
theorem s8{c:List Nat}{f t i:Nat}(h:i<c.length)(jD:c[i]≠f):fQ c f t (i+1)=fQ c f t i:=by
 rw[qn h,if_neg jD]
 conv=>rhs;rw[←List.set_getElem_self (as:=fQ c f t i) (i:=i) (h:=by rw[rS];exact h)]
 rw[rK h]
theorem FR{c:List Nat}{a b i:Nat}(h:c.length≤i):fQ c (max (cl c a) (cl c b)) (min (cl c a) (cl c b)) i=gj c a b:=by
 unfold fQ gj
 rw[List.take_of_length_le h,List.drop_of_length_le h,bm]
theorem uQ{l:List Nat}{i n:Nat}(h:i<l.length):(bP l).set i (sS (row (bP l) i) 0 [.val (.int .i64 (n:Int))])=bP (l.set i n):=by
 rw[pw h,←Tr]
 rfl
def qp(e l n:Nat):List (Nat×Nat):=(dV e (l-e)).map (fun e=>(e,l))++jG (l+1) n
theorem xq{l n:Nat}(h:l<n):jG l n=qp 0 l n:=Hz h
theorem zL{e l n:Nat}(h:e<l):qp e l n=(e,l)::qp (e+1) l n:=by
 unfold qp
 rw[od h];rfl
theorem Ck{e l n:Nat}(h:l≤e):qp e l n=jG (l+1) n:=by
 unfold qp
 rw[pE h];rfl
def v8(ae:List Term)(aj:List Step)(sP:Nat→Nat→Nat→ju)(i:Nat):ju:=
 if(ig aj i).given<0 then .mk 5 0 (.mk (ae.getD (vA aj i) aL).name []) (((ae.getD (vA aj i) aL).kids.zip (ae.getD (vB aj i) aL).kids).map fun p=>sP i (aH ae p.1) (aH ae p.2)) else .mk 2 (ig aj i).given aL []
theorem Gg(ae:List Term)(aj:List Step)(sP:Nat→Nat→Nat→ju)(e:Edge):kP ae aj sP e=if e.back then .mk 3 0 aL [v8 ae aj sP e.step] else v8 ae aj sP e.step:=rfl
theorem r7{aj:List Step}{i:Nat}(h:i<aj.length):ig aj i=aj[i]:=by
 rw[ig,ay,af h];rfl
theorem xx{c:List Nat}{a b m:Nat}(h:∀x∈c,x≤m):∀x∈gj c a b,x≤m:=by
 intro x hx
 simp only[gj,bF] at hx
 obtain⟨y,hy,rfl⟩:=hx
 have hle:∀i,cl c i≤m:=fun i=>by
  rcases bV i c.length with h1|h1
  ·exact h _ (AL h1)
  ·rw[Zp h1];exact bc _
 have:=hle a
 have:=hle b
 have:=h y hy
 split<;>omega
theorem pJ{m:Nat}:∀{c:List Nat},(∀x∈c,x≤m)→c.sum≤c.length*m
 | [],_=>by simp
 | x::c,h=>by
   have h1:=h x (by simp)
   have h2:=pJ (c:=c) fun y hy=>h y (bh _ hy)
   simp only[List.sum_cons,aW,Nat.add_mul]
   omega
theorem CX{ae:List Term}{c:List Nat}:∀{xs ys:List Term},lM ae c xs ys=true→xs.length=ys.length∧∀(i:Nat)(h:i<xs.length)(h':i<ys.length),cl c (aH ae xs[i])=cl c (aH ae ys[i])
 | [],[],_=>⟨rfl,fun i h=>by simp at h⟩
 | [],_::_,h=>by cases h
 | _::_,[],h=>by cases h
 | x::xs,y::ys,h=>by
   simp only[lM,ai] at h
   obtain⟨i1,i2⟩:=CX h.2
   refine⟨by simp[i1],fun i h1 h2=>?_⟩
   cases i with
   | zero=>simpa[Ke] using h.1
   | succ i=>exact i2 i (by simpa using h1) (by simpa using h2)
theorem Ol{ae:List Term}{c:List Nat}{a b:Nat}(h:alike ae c a b=true):0<(ae.getD a aL).kids.length∧(ae.getD a aL).name=(ae.getD b aL).name∧(ae.getD a aL).kids.length=(ae.getD b aL).kids.length ∧
 ∀(i:Nat)(h:i<(ae.getD a aL).kids.length)(h':i<(ae.getD b aL).kids.length),cl c (aH ae (ae.getD a aL).kids[i])=cl c (aH ae (ae.getD b aL).kids[i]):=by
 simp only[alike,ai,decide_eq_true_eq] at h
 obtain⟨i1,i2⟩:=CX h.2.2
 exact⟨h.1,h.2.1,i1,i2⟩
theorem O6{α β γ:Type}{f:α×β→γ}{xs:List α}{ys:List β}{i:Nat}(h:i<xs.length)(h':i<ys.length):((xs.zip ys).take (i+1)).map f=((xs.zip ys).take i).map f++[f (xs[i],ys[i])]:=by
 rw[bq,af (by simp;omega),cK]
 simp
theorem SI{rec_:Nat→List Nat→Option (List Edge)}{aj:List Step}{v n i:Nat}{eh:List Nat}(h:i<n):vt rec_ aj v eh (dV i (n-i))=match pG aj v i with
 | none=>vt rec_ aj v eh (dV (i+1) (n-(i+1)))
 | some e=>if ix aj e∈eh then vt rec_ aj v eh (dV (i+1) (n-(i+1))) else match rec_ (ix aj e) (eh++[ix aj e]) with
   | none=>vt rec_ aj v eh (dV (i+1) (n-(i+1)))
   | some r=>some (e::r):=by
 rw[od h,vt]
 all_goals rfl
def Sk(one:Edge→ju)(t:Term):List Edge→ju
 | []=>.mk 1 0 t []
 | e::es=>oQ one (one e) es
theorem So(ae:List Term)(aj:List Step)(f n a b:Nat):lu ae aj (f+1) n a b=Sk (kP ae aj (lu ae aj f)) (ae.getD a aL) (lR ae.length aj n a b):=by
 rw[lu]
 cases lR ae.length aj n a b<;>rfl
theorem wO{one:Edge→ju}{t:Term}{way:List Edge}(h:0<way.length):Sk one t way=oQ one (one way[0]) (way.drop 1):=by
 cases way with
 | nil=>simp at h
 | cons e es=>rfl
theorem B4{rec_:Nat→List Nat→Option (List Edge)}{aj:List Step}{v:Nat}{eh:List Nat}:∀{l:List Nat}{r:List Edge},vt rec_ aj v eh l=some r→∃e w s r',r=e::r'∧rec_ w s=some r'
 | [],r,h=>by cases h
 | i::l,r,h=>by
   rw[vt] at h
   split at h
   ·exact B4 h
   ·split at h
    ·exact B4 h
    ·split at h
     ·exact B4 h
     ·rename_i hr
      simp only[Option.some.injEq] at h
      exact⟨_,_,_,_,h.symm,hr⟩
theorem B3{aj:List Step}{n to:Nat}:∀{f v:Nat}{eh:List Nat}{r:List Edge},ud aj n to f v eh=some r→r.length≤f
 | 0,_,_,_,h=>by cases h
 | f+1,v,eh,r,h=>by
   rw[ud] at h
   split at h
   ·simp only[Option.some.injEq] at h
    rw[←h]
    exact bc _
   ·obtain⟨e,w,s,r',rfl,h2⟩:=B4 h
    have:=B3 h2
    simp only[aW]
    omega
end Go.Mod
