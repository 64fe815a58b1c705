/-
  What the deciding functions of chapters 3, 5 and 8 compute, in plain Lean: elimination, closures, explanations, decisions. No program is walked here.
-/
import Derived.Test.YtphcpjhkeipggaaGreatKBE
set_option linter.unusedVariables false
set_option linter.unusedSimpArgs false
open Bool renaming and_eq_true→ah,false_eq_true→au,eq_false_or_eq_true→mK
open Classical renaming em→aa
open Int renaming toNat_natCast→bc,gcd→b9,natCast_nonneg→jY,tdiv_eq_ediv_of_nonneg→lQ
open List renaming drop_eq_getElem_cons→ae,getElem?_eq_getElem→af,getElem_mem→aj,mem_cons→az,getD_eq_getElem?_getD→aB,mem_append→aO,map_cons→aV,length_cons→aY,not_mem_nil→bf,length_take→bl,mem_cons_of_mem→bw,take_add_one→bz,append_assoc→bC,append_nil→bE,getElem?_append_left→bF,cons_append→bI,range→bK,getElem?_eq_none→bM,mem_map→bN,getElem?_append_right→bO,nil_append→bS,getElem?_eq_some_iff→bV,getD→ct,all_eq_true→cV,length_map→cW,nodup_cons→da,mem_append_left→dI,map_append→dM,map_nil→dS,nodup_append→dU,range'→fk,mem_of_find?_eq_some→gj,mem_range→gz,foldl_cons→gX,mem_flatMap→hX,length_range→ij,getElem?_cons_zero→iV,map_set→lp,foldl_append→mr,reverse_append→pI
open Nat renaming le_refl→aK,zero_le→bo,lt_or_ge→cz,lt_trichotomy→fV,sub_self→mo
open Option renaming isSome_iff_exists→dA
namespace Go.Mod
open Go.Eng
set_option maxRecDepth 100000
def db(l:List Nat):List (List D):=l.map fun n:Nat=>[.val (.int .i64 (n:Int))]
theorem Ya(l:List Nat):(db l).length=l.length:=by simp[db]
theorem se{l:List Nat}{i:Nat}(h:i<l.length):row (db l) i=[.val (.int .i64 (l[i]:Int))]:=by simp[db,row,ct,af h]
theorem He(l:List Nat):∀y∈db l,y.length=1:=by intro y hy;obtain⟨t,_,rfl⟩:=bN.1 hy;rfl
theorem oh(a b:List Nat):db a++db b=db (a++b):=by simp[db]
theorem Ze{l:List Nat}{i n:Nat}:(db l).set i [.val (.int .i64 (n:Int))]=db (l.set i n):=by simp[db,lp]
attribute [go_sem] Ya se
theorem qz{i n:Nat}(h:i<n):fk i (n-i)=i::fk (i+1) (n-(i+1)):=by obtain⟨k,rfl⟩:∃k,n=i+1+k:=⟨n-(i+1),oM⟩;have e1:i+1+k-i=k+1:=oM;have e2:i+1+k-(i+1)=k:=oM;rw[e1,e2,List.range'_succ]
theorem rX{i n:Nat}(h:n≤i):fk i (n-i)=[]:=by have e1:n-i=0:=oM;rw[e1];rfl
theorem WC(n:Int):(whole n).N=n:=rfl
theorem adU(n:Int):(whole n).D=1:=rfl
attribute [go_sem] WC adU
structure dK where
 lG:j8
 ie:List Int
 deriving DecidableEq
def cU(r:dK):List D:=[.eC (bm r.lG.aW),.val (.int .i64 r.lG.bj),.val (.bool r.lG.bJ),.eC (bm r.ie)]
def fm(l:List dK):List (List D):=l.map cU
theorem Za(l:List dK):(fm l).length=l.length:=by simp[fm]
theorem X9{l:List dK}{i:Nat}(h:i<l.length):row (fm l) i=cU l[i]:=by simp[fm,row,ct,af h]
theorem BV(a b:List dK):fm a++fm b=fm (a++b):=by simp[fm]
theorem ye:fm []=[]:=rfl
theorem zD(n:dK)(l:List dK):fm (n::l)=cU n::fm l:=rfl
attribute [go_sem] Za X9 ye cU
def cq(r:dK)(v:Nat):Int:=r.lG.aW.getD v 0
def wX(n i:Nat):List Int:=(List.replicate n 0).set i 1
def b6(ls:List j8):List dK:=(bK ls.length).map fun i=>⟨ls.getD i qo,wX ls.length i⟩
def xZ(a b:dK)(v:Nat):Int:=(b9 (cq a v) (-(cq b v)):Int)
def rE(a b:dK)(v:Nat):Int:=(cq a v).tdiv (xZ a b v)
def rB(a b:dK)(v:Nat):Int:=(-(cq b v)).tdiv (xZ a b v)
def tj(a b:dK)(v:Nat):List Int:=iC (rB a b v) (rE a b v) a.ie b.ie
def D5(a b:dK)(v:Nat):dK:=⟨(fL a.lG (rB a b v) b.lG (rE a b v)).1,tj a b v⟩
def xC(a b:dK)(v:Nat):Bool:=(fL a.lG (rB a b v) b.lG (rE a b v)).2&&(tj a b v).all fun n=>decide (n≤1000000)
def rI(a:dK)(v:Nat)(aw:List dK):List (dK×dK):=aw.filterMap fun b=>if 0<cq a v∧cq b v<0 then some (a,b) else none
def rS(all aw:List dK)(v:Nat):List (dK×dK):=aw.flatMap fun a=>rI a v all
def oV(v:Nat):List (dK×dK)→List dK→Option (List dK)
 | [],out=>some out
 | (a,b)::ps,out=>if xC a b v=true∧out.length<200 then oV v ps (out++[D5 a b v]) else none
def jo(aw:List dK)(v:Nat):Option (List dK):=oV v (rS aw aw v) (aw.filter fun r=>decide (cq r v=0))
def tL(v:Nat):Nat→List Int→List Rat→Rat→Option Rat
 | i,c::cs,x::xs,sum=>if i=v then tL v (i+1) cs xs sum else if(plus sum (-c) x).2 then tL v (i+1) cs xs (plus sum (-c) x).1 else none
 | _,_,_,sum=>some sum
def Dv(x:Rat×Bool):Option Rat:=if x.2 then some x.1 else none
def pd(l:j8)(v:Nat)(aF:List Rat):Option Rat:=
 match tL v 0 l.aW aF (whole l.bj) with
 | none=>none
 | some sum=>if(ny 1 (l.aW.getD v 0)).2 then Dv (dt sum (ny 1 (l.aW.getD v 0)).1) else none
def lower(x:Rat):Option Rat→Bool
 | none=>true
 | some h=>eF x h
def upper(x:Rat):Option Rat→Bool
 | none=>true
 | some l=>eF l x
def qW(v:Nat)(aF:List Rat):List dK→Option Rat→Option Rat→Option (Option Rat×Option Rat)
 | [],lo,hi=>some (lo,hi)
 | r::rs,lo,hi=>if cq r v=0 then qW v aF rs lo hi else match pd r.lG v aF with
   | none=>none
   | some b=>if 0<cq r v then qW v aF rs lo (if lower b hi then some b else hi) else qW v aF rs (if upper b lo then some b else lo) hi
def mN:Option Rat→Option Rat→Rat×Bool
 | some l,some h=>tF l h
 | none,some h=>eL h (whole (-1))
 | some l,none=>eL l (whole 1)
 | none,none=>(whole 0,true)
def valueOf(aw:List dK)(v:Nat)(aF:List Rat):Option Rat:=
 match qW v aF aw none none with
 | none=>none
 | some e=>Dv (mN e.1 e.2)
def oq:List (List dK)→Nat→List Rat→Option (List Rat)
 | [],_,aF=>some aF
 | aw::st,v,aF=>match valueOf aw v aF with
   | none=>none
   | some x=>oq st (v+1) (aF.set v x)
def mY:List Int→List Rat→Rat→Option Rat
 | c::cs,x::xs,sum=>if(plus sum c x).2 then mY cs xs (plus sum c x).1 else none
 | _,_,sum=>some sum
def tz(aF:List Rat):Bool:=decide (aF.length=4)&&aF.all cP
def oA(l:j8)(aF:List Rat):Option Bool:=if fF l&&tz aF then(mY l.aW aF (whole 0)).map fun x=>below x l.bj l.bJ else none
def na(aS:List j8)(aF:List Rat):Bool:=iU aS&&(tz aF&&aS.all fun l=>decide (oA l aF=some true))
def qk:List Rat:=[whole 0,whole 0,whole 0,whole 0]
structure Far where
 aF:List Rat
 a8:List Int
 code:Int
def jS(aS:List j8)(s0 s1 s2 s3 aw:List dK):Far:=
 match aw.find? fun r=>lM r.lG with
 | some r=>if vY aS r.ie then⟨[],r.ie,1⟩ else⟨[],[],2⟩
 | none=>match oq [s0,s1,s2,s3] 0 qk with
   | none=>⟨[],[],2⟩
   | some aF=>if na aS aF then⟨aF,[],0⟩ else⟨[],[],2⟩
def cE(aS:List j8):Far:=
 if iU aS then match jo (b6 aS) 3 with
  | none=>⟨[],[],2⟩
  | some r2=>match jo r2 2 with
    | none=>⟨[],[],2⟩
    | some r1=>match jo r1 1 with
      | none=>⟨[],[],2⟩
      | some r0=>match jo r0 0 with
        | none=>⟨[],[],2⟩
        | some aw=>jS aS r0 r1 r2 (b6 aS) aw
 else⟨[],[],3⟩
def aM(al:List ax)(t:ax):Nat:=(b8 al t).toNat
def cl(class_:List Nat)(i:Nat):Nat:=class_.getD i 0
def iw(class_:List Nat)(a b:Nat):List Nat:=class_.map fun k=>if k=max (cl class_ a) (cl class_ b) then min (cl class_ a) (cl class_ b) else k
def NX(al:List ax)(class_:List Nat)(x y:ax):Bool:=decide (cl class_ (aM al x)=cl class_ (aM al y))
def nQ(al:List ax)(class_:List Nat):List ax→List ax→Bool
 | [],[]=>true
 | x::xs,y::ys=>NX al class_ x y&&nQ al class_ xs ys
 | _,_=>false
def alike(al:List ax)(class_:List Nat)(a b:Nat):Bool:=
 decide (0<(al.getD a aQ).ar.length)&&(decide ((al.getD a aQ).name=(al.getD b aQ).name)&&nQ al class_ (al.getD a aQ).ar (al.getD b aQ).ar)
def o8(al:List ax)(class_:List Nat)(early late:Nat):Bool:=decide (cl class_ early≠cl class_ late)&&alike al class_ early late
def lC(from_ n:Nat):List (Nat×Nat):=(fk from_ (n-from_)).flatMap fun l=>(fk 0 l).map fun e=>(e,l)
def gQ(al:List ax)(class_:List Nat):Option (Nat×Nat):=(lC 0 al.length).find? fun p=>o8 al class_ p.1 p.2
def kM(al:List ax):Nat→List hY→List Nat→List Step→List Nat×List Step
 | _,[],class_,ao=>(class_,ao)
 | n,e::es,class_,ao=>
   if cl class_ (aM al e.A)=cl class_ (aM al e.B) then kM al (n+1) es class_ ao
   else kM al (n+1) es (iw class_ (aM al e.A) (aM al e.B)) (ao++[⟨aM al e.A,aM al e.B,n⟩])
def l7(al:List ax):Nat→List Nat→List Step→List Nat×List Step
 | 0,class_,ao=>(class_,ao)
 | f+1,class_,ao=>match gQ al class_ with
   | none=>(class_,ao)
   | some p=>l7 al f (iw class_ p.1 p.2) (ao++[⟨p.1,p.2,-1⟩])
def given(al:List ax)(bB:List hY):List Nat×List Step:=kM al 0 bB (bK al.length) []
def closed(al:List ax)(bB:List hY):List Nat×List Step:=l7 al (given al bB).1.sum (given al bB).1 (given al bB).2
def a6(n:Nat)(ao:List Step)(k:Nat):List Nat:=(ao.take k).foldl (fun c s=>iw c s.A.toNat s.B.toNat) (bK n)
structure Edge where
 step:Nat
 back:Bool
 deriving DecidableEq
def jC(ao:List Step)(k:Nat):Step:=ao.getD k ⟨0,0,0⟩
def n7(n:Nat)(ao:List Step):Nat→Nat→Nat→List Edge
 | 0,_,_=>[]
 | k+1,a,b=>
   let c:=a6 n ao k
   if cl c a=cl c b then n7 n ao k a b
   else if cl c a=cl c (jC ao k).A.toNat then n7 n ao k a (jC ao k).A.toNat++⟨k,false⟩::n7 n ao k (jC ao k).B.toNat b
   else n7 n ao k a (jC ao k).B.toNat++⟨k,true⟩::n7 n ao k (jC ao k).A.toNat b
def mP(al:List ax)(ao:List Step)(tq:Nat→Nat→Nat→lH)(e:Edge):lH:=
 let s:=jC ao e.step
 let w:lH:=if s.given<0 then .mk 5 0 (.mk (al.getD s.A.toNat aQ).name []) (((al.getD s.A.toNat aQ).ar.zip (al.getD s.B.toNat aQ).ar).map fun p=>tq e.step (aM al p.1) (aM al p.2)) else .mk 2 s.given aQ []
 if e.back then .mk 3 0 aQ [w] else w
def qP(one:Edge→lH):lH→List Edge→lH
 | w,[]=>w
 | w,e::es=>qP one (.mk 4 0 aQ [w,one e]) es
def nk(al:List ax)(ao:List Step):Nat→Nat→Nat→Nat→lH
 | 0,_,_,_=>wv
 | f+1,n,a,b=>match n7 al.length ao n a b with
   | []=>.mk 1 0 (al.getD a aQ) []
   | e::es=>qP (mP al ao (nk al ao f)) (mP al ao (nk al ao f) e) es
def oi(al:List ax)(ao:List Step)(a b:ax):lH:=nk al ao (ao.length+1) ao.length (aM al a) (aM al b)
def fY(ai:List ax)(out:List Nat)(e:hY):List Nat:=
 if b8 ai e.A<0∨b8 ai e.B<0 then out else out.map fun k=>if k=cl out (aM ai e.A) then cl out (aM ai e.B) else k
def mR(ai:List ax)(bB:List hY):List Nat:=bB.foldl (fY ai) (bK ai.length)
def gp(ai:List ax)(ab:List bL)(i k:Nat):Bool:=decide (cl (mR ai (br ab)) i=cl (mR ai (br ab)) k)
def fW(ai:List ax)(ab:List bL)(i k:Nat):Bool:=ab.any fun l=>!l.no&&decide (l.aN=(fa (ai.getD i aQ) (ai.getD k aQ)).aN)
def ff(from_ n:Nat):List (Nat×Nat):=(fk from_ (n-from_)).flatMap fun i=>(fk (i+1) (n-(i+1))).map fun k=>(i,k)
def dj(n:Nat)(p:Nat→Nat→Bool):Option (Nat×Nat):=(ff 0 n).find? fun q=>p q.1 q.2
def ix(ay:List ax)(class_:List Nat)(a b:ax):Bool:=decide (cl class_ (aM ay a)=cl class_ (aM ay b))
def lV(ay:List ax)(class_:List Nat)(l:bL):Bool:=l.no&&(decide (l.aN.kind=1)&&ix ay class_ l.aN.A l.aN.B)
def nE{α:Type}(p:α→Bool)(l:List α):Option Nat:=(bK l.length).find? fun i=>match l[i]? with|none=>false|some x=>p x
def kG(ay ai:List ax)(class_:List Nat)(aF:List Rat)(t:ax):Rat:=if b8 ai t<0 then whole (cl class_ (aM ay t)) else aF.getD (aM ai t) (whole 0)
def j9(ay ai:List ax)(class_:List Nat)(aF:List Rat)(t:ax):Row:=⟨t.name,t.ar.map (kG ay ai class_ aF),kG ay ai class_ aF t⟩
def putRow(aw:List Row)(r:Row):List Row:=
 let lo:=aw.takeWhile fun x=>decide (gx x r<0)
 let hi:=aw.dropWhile fun x=>decide (gx x r<0)
 match hi with
 | []=>lo++[r]
 | x::xs=>if gx x r=0 then aw else lo++r::x::xs
def jT(ay ai:List ax)(class_:List Nat)(aF:List Rat):List Row:=ay.foldl (fun aw t=>putRow aw (j9 ay ai class_ aF t)) []
def jH(s:eM)(m:dQ)(ab:List bL):Bool:=fR s m&&ab.all fun l=>decide (iy s m l=some true)
structure FY where
 model:dQ
 case:eJ
 code:Int
def th:eJ:=.mk 0 0 wv [] aQ aQ []
def oo:dQ:=⟨[]⟩
def Ds:FY:=⟨oo,th,2⟩
def H0(w:lH)(r:FY):FY:=if r.code=1 then⟨oo,.mk 3 0 w [] aQ aQ [r.case],1⟩ else⟨r.model,th,r.code⟩
def yg(run:List bL→FY)(a b:ax):List (List bL)→List eJ→FY
 | [],out=>⟨oo,.mk 4 0 wv [] a b out,1⟩
 | l::ls,out=>if(run l).code=1 then yg run a b ls (out++[(run l).case]) else⟨(run l).model,th,(run l).code⟩
def mL(s:eM)(ay ai:List ax):Nat→List bL→FY
 | 0,_=>Ds
 | f+1,ab=>
   let bB:=br ab
   let c:=closed ay bB
   let N1:=cE (fN ai ab)
   if 12<bB.length then Ds else
   match nE (lV ay c.1) ab with
   | some n=>⟨oo,.mk 1 n (oi ay c.2 (ab.getD n Gq).aN.A (ab.getD n Gq).aN.B) [] aQ aQ [],1⟩
   | none=>
     if N1.code=1 then⟨oo,.mk 2 0 wv N1.a8 aQ aQ [],1⟩ else
     if N1.code≠0 then Ds else
     match dj ai.length (fun i k=>!gp ai ab i k&&ix ay c.1 (ai.getD i aQ) (ai.getD k aQ)) with
     | some (i,k)=>H0 (oi ay c.2 (ai.getD i aQ) (ai.getD k aQ)) (mL s ay ai f (ab++[jf (ai.getD i aQ) (ai.getD k aQ)]))
     | none=>match dj ai.length (fun i k=>!gp ai ab i k&&(!fW ai ab i k&& !fW ai ab k i)) with
       | some (i,k)=>yg (mL s ay ai f) (ai.getD i aQ) (ai.getD k aQ) ((gv (ai.getD i aQ) (ai.getD k aQ)).map fun l=>ab++[l]) []
       | none=>if jH s ⟨jT ay ai c.1 N1.aF⟩ ab then⟨⟨jT ay ai c.1 N1.aF⟩,th,0⟩ else Ds
def eh(s:eM)(ab:List bL):FY:=if gn s ab then mL s (aL ab) (aG s ab) 13 ab else⟨oo,th,3⟩
theorem jt{c:List Nat}{i:Nat}(h:i<c.length):cl c i=c[i]:=by rw[cl,aB,af h];rfl
theorem DU{c:List Nat}{i:Nat}(h:i<c.length):cl c i∈c:=by rw[jt h];exact aj h
theorem aeH{c:List Nat}{i:Nat}(h:c.length≤i):cl c i=0:=by rw[cl,aB,bM h];rfl
theorem hU(c:List Nat)(a b:Nat):(iw c a b).length=c.length:=by simp[iw]
theorem yy{c:List Nat}{f:Nat→Nat}{i:Nat}(h:i<c.length):cl (c.map f) i=f (cl c i):=by rw[jt (by simpa using h),jt h,List.getElem_map]
theorem Bm{c:List Nat}{a b i:Nat}(h:i<c.length):cl (iw c a b) i=if cl c i=max (cl c a) (cl c b) then min (cl c a) (cl c b) else cl c i:=yy h
theorem G9{c:List Nat}{a b i k:Nat}(hi:i<c.length)(hk:k<c.length):cl (iw c a b) i=cl (iw c a b) k↔(cl c i=cl c k∨(cl c i=cl c a∧cl c k=cl c b)∨(cl c i=cl c b∧cl c k=cl c a)):=by rw[Bm hi,Bm hk];split<;>split<;>omega
theorem ZT{f:Nat→Nat}(hf:∀x,f x≤x):∀l:List Nat,(l.map f).sum≤l.sum
 | []=>aK _
 | x::l=>by have:=ZT hf l;have:=hf x;simp only[aV,List.sum_cons];omega
theorem aaC{f:Nat→Nat}(hf:∀x,f x≤x):∀{l:List Nat}{x:Nat},x∈l→f x<x→(l.map f).sum<l.sum
 | y::l,x,hx,h=>by simp only[aV,List.sum_cons];have h1:=ZT hf l;have h2:=hf y;rcases az.1 hx with e|e;subst e;omega;have:=aaC hf e h;omega
theorem Oi{c:List Nat}{a b:Nat}(ha:a<c.length)(hb:b<c.length)(h:cl c a≠cl c b):(iw c a b).sum<c.sum:=by refine aaC (x:=max (cl c a) (cl c b)) (fun x=>?_) ?_ ?_;split<;>omega;rcases Nat.le_total (cl c a) (cl c b) with h1|h1;rw[Nat.max_eq_right h1];exact DU hb;rw[Nat.max_eq_left h1];exact DU ha;rw[if_pos rfl];omega
theorem CA{s n:Nat}{p:Nat×Nat}:p∈lC s n↔p.1<p.2∧s≤p.2∧p.2<n:=by obtain⟨e,l⟩:=p;simp only[lC,hX,bN,List.mem_range'_1,Prod.mk.injEq];constructor;rintro⟨l',h1,e',h2,rfl,rfl⟩;omega;rintro⟨h1,h2,h3⟩;exact⟨l,oM,e,oM,rfl,rfl⟩
theorem Mf{l n:Nat}(h:l<n):lC l n=(fk 0 (l-0)).map (fun e=>(e,l))++lC (l+1) n:=by unfold lC;rw[qz h];rfl
theorem C4{l n:Nat}(h:n≤l):lC l n=[]:=by unfold lC;rw[rX h];rfl
theorem sS{al:List ax}{c:List Nat}{p:Nat×Nat}(h:gQ al c=some p):p.1<p.2∧p.2<al.length∧cl c p.1≠cl c p.2∧alike al c p.1 p.2=true:=by have h1:=List.find?_some h;have h2:=CA.1 (gj h);simp only[o8,ah,decide_eq_true_eq] at h1;exact⟨h2.1,h2.2.2,h1.1,h1.2⟩
theorem aap{x:Nat}:∀{l:List Nat},x∈l→x≤l.sum
 | y::l,h=>by simp only[List.sum_cons];rcases az.1 h with e|e;omega;have:=aap e;omega
theorem y5{al:List ax}{f:Nat}{c:List Nat}{ao:List Step}(h:gQ al c=none):l7 al f c ao=(c,ao):=by
 cases f with
 | zero=>rfl
 | succ f=>simp only[l7,h]
theorem y7{al:List ax}{f:Nat}{c:List Nat}{ao:List Step}{p:Nat×Nat}(hs:c.sum≤f)(hc:c.length=al.length)(h:gQ al c=some p) :
 ∃f',f=f'+1∧l7 al f c ao=l7 al f' (iw c p.1 p.2) (ao++[⟨p.1,p.2,-1⟩])∧(iw c p.1 p.2).sum≤f':=by
 obtain⟨h1,h2,h3,h4⟩:=sS h
 have hd:=Oi (c:=c) (a:=p.1) (b:=p.2) oM oM h3
 obtain⟨f',rfl⟩:∃f',f=f'+1:=⟨f-1,oM⟩
 exact⟨f',rfl,by simp only[l7,h],oM⟩
structure Q4(al:List ax)(bB:List hY)(c:List Nat)(s:Step):Prop where
 a0:0≤s.A
 a1:s.A.toNat<al.length
 b0:0≤s.B
 b1:s.B.toNat<al.length
 ne:cl c s.A.toNat≠cl c s.B.toNat
 how:(s.given = -1∧alike al c s.A.toNat s.B.toNat=true)∨(∃n:Nat,s.given=n∧∃e,bB[n]?=some e∧s.A=aM al e.A∧s.B=aM al e.B)
def nJ(al:List ax)(bB:List hY)(ao:List Step):Prop:=∀k s,ao[k]?=some s→Q4 al bB (a6 al.length ao k) s
theorem xf{n k:Nat}{ao more:List Step}(h:k≤ao.length):a6 n (ao++more) k=a6 n ao k:=by rw[a6,a6,List.take_append_of_le_length h]
theorem ke(n:Nat)(ao:List Step)(k:Nat):(a6 n ao k).length=n:=by
 unfold a6;have:∀(l:List Step)(c:List Nat),(l.foldl (fun c s=>iw c s.A.toNat s.B.toNat) c).length=c.length:=by
  intro l;induction l with
  | nil=>intro c;rfl
  | cons s l ih=>intro c;rw[gX,ih,hU]
 rw[this,ij]
theorem vy{n k:Nat}{ao:List Step}{s:Step}(h:ao[k]?=some s):a6 n ao (k+1)=iw (a6 n ao k) s.A.toNat s.B.toNat:=by obtain⟨hk,rfl⟩:=bV.1 h;rw[a6,bz,af hk,mr];rfl
theorem Qm{al:List ax}{bB:List hY}{ao:List Step}{s:Step}(h:nJ al bB ao)(hs:Q4 al bB (a6 al.length ao ao.length) s):nJ al bB (ao++[s]):=by intro k t ht;rcases fV k ao.length with h1|h1|h1;rw[bF h1] at ht;rw[xf oM];exact h k t ht;subst h1;rw[bO (aK _)] at ht;simp only[mo,iV,Option.some.injEq] at ht;rw[xf (aK _),←ht];exact hs;rw[bM (by simp;omega)] at ht;cases ht
theorem KY{n:Nat}{ao:List Step}{s:Step}:a6 n (ao++[s]) (ao++[s]).length=iw (a6 n ao ao.length) s.A.toNat s.B.toNat:=by rw[List.length_append,List.length_singleton,vy (s:=s) (by simp),xf (aK _)]
def Kept(al:List ax)(bB:List hY)(x:List Nat×List Step):Prop:=nJ al bB x.2∧x.1=a6 al.length x.2 x.2.length
theorem Ss{al:List ax}{bB:List hY}{x:List Nat×List Step}(h:Kept al bB x):x.1.length=al.length:=by rw[h.2,ke]
theorem O7{al:List ax}{bB:List hY}{x:List Nat×List Step}{s:Step}(h:Kept al bB x)(hs:Q4 al bB x.1 s):Kept al bB (iw x.1 s.A.toNat s.B.toNat,x.2++[s]):=
 ⟨Qm h.1 (h.2▸hs),by rw[KY,←h.2]⟩
theorem yw{al:List ax}{all:List hY}(kI:∀e∈all,e.A∈al∧e.B∈al):∀(bB:List hY)(n:Nat)(c:List Nat)(ao:List Step),all.drop n=bB→Kept al all (c,ao)→Kept al all (kM al n bB c ao)
 | [],_,_,_,_,h=>h
 | e::es,n,c,ao,hd,h=>by have hn:all[n]?=some e:=(by have:=congrArg (·[0]?) hd;simpa using this);have hd2:all.drop (n+1)=es:=(by have:=congrArg List.tail hd;simpa[List.tail_drop] using this);obtain⟨hA,hB⟩:=kI e (List.mem_of_getElem? hn);rw[kM];split;exact yw kI es (n+1) c ao hd2 h;rename_i lj;exact yw kI es (n+1) _ _ hd2 (O7 (s:=⟨aM al e.A,aM al e.B,n⟩) h ⟨jY _,by rw[bc];exact qf hA,jY _,by rw[bc];exact qf hB,by simpa using lj,.inr ⟨n,rfl,e,hn,rfl,rfl⟩⟩)
theorem E1{al:List ax}{all:List hY}:∀(f:Nat)(c:List Nat)(ao:List Step),Kept al all (c,ao)→Kept al all (l7 al f c ao)
 | 0,_,_,h=>h
 | f+1,c,ao,h=>by rw[l7];split;exact h;rename_i p hp;obtain⟨h1,h2,h3,h4⟩:=sS hp;exact E1 f _ _ (O7 (s:=⟨p.1,p.2,-1⟩) h ⟨jY _,by simp;omega,jY _,by simpa using h2,by simpa using h3,.inl ⟨rfl,by simpa using h4⟩⟩)
theorem Wn{al:List ax}{bB:List hY}(kI:∀e∈bB,e.A∈al∧e.B∈al):Kept al bB (given al bB):=
 yw kI bB 0 _ _ rfl ⟨fun k s h=>by simp at h,rfl⟩
theorem oL{al:List ax}{bB:List hY}(kI:∀e∈bB,e.A∈al∧e.B∈al):Kept al bB (closed al bB):=E1 _ _ _ (Wn kI)
theorem yU{al:List ax}{bB:List hY}{x:List Nat×List Step}(h:Kept al bB x):∀k,k≤x.2.length→(a6 al.length x.2 k).sum+k≤(bK al.length).sum:=by
 intro k;induction k with
 | zero=>intro _;exact Nat.le_of_eq (by simp[a6])
 | succ k ih=>intro hk;have hs:x.2[k]?=some x.2[k]:=af oM;have h1:=ih oM;have h2:=h.1 k _ hs;have h3:=Oi (c:=a6 al.length x.2 k) (by rw[ke];exact h2.a1) (by rw[ke];exact h2.b1) h2.ne;rw[vy hs];omega
def vA(ao:List Step)(k:Nat):Nat:=(jC ao k).A.toNat
def vB(ao:List Step)(k:Nat):Nat:=(jC ao k).B.toNat
def jc(ao:List Step)(e:Edge):Nat:=if e.back then vB ao e.step else vA ao e.step
def jQ(ao:List Step)(e:Edge):Nat:=if e.back then vA ao e.step else vB ao e.step
def r7(ao:List Step):Nat→List Edge→Nat→Prop
 | a,[],b=>a=b
 | a,e::es,b=>jc ao e=a∧r7 ao (jQ ao e) es b
def qT(k:Nat)(es:List Edge):Prop:=∀e∈es,e.step<k
def jl(ao:List Step)(a:Nat)(es:List Edge):List Nat:=a::es.map (jQ ao)
theorem AY{ao:List Step}:∀{p q:List Edge}{a b:Nat},r7 ao a (p++q) b↔∃m,r7 ao a p m∧r7 ao m q b
 | [],q,a,b=>by simp[r7]
 | e::p,q,a,b=>by simp only[bI,r7,AY (p:=p)];constructor;rintro⟨h1,m,h2,h3⟩;exact⟨m,⟨h1,h2⟩,h3⟩;rintro⟨m,⟨h1,h2⟩,h3⟩;exact⟨h1,m,h2,h3⟩
theorem K8{ao:List Step}:∀{p:List Edge}{a b:Nat},r7 ao a p b→b∈jl ao a p
 | [],a,b,h=>by simp[r7] at h;simp[jl,h]
 | e::p,a,b,h=>by have:=K8 h.2;simp only[jl,aV,az] at this⊢;exact .inr this
section
variable{al:List ax}{bB:List hY}{ao:List Step}(fy:nJ al bB ao)
include fy
theorem qR{k:Nat}(h:k<ao.length):Q4 al bB (a6 al.length ao k) (jC ao k):=by have e:=af h;have:=fy k _ e;rw[jC,aB,e];exact this
theorem KF{k:Nat}(h:k<ao.length):vA ao k<al.length:=(qR fy h).a1
theorem Lf{k:Nat}(h:k<ao.length):vB ao k<al.length:=(qR fy h).b1
omit fy in
theorem WW{k:Nat}(h:k<ao.length):a6 al.length ao (k+1)=iw (a6 al.length ao k) (vA ao k) (vB ao k):=by rw[vy (af h),vA,vB,jC,aB,af h];rfl
omit fy in
theorem U4{k i j:Nat}(h:k<ao.length)(hi:i<al.length)(hj:j<al.length):cl (a6 al.length ao (k+1)) i=cl (a6 al.length ao (k+1)) j ↔
 (cl (a6 al.length ao k) i=cl (a6 al.length ao k) j∨(cl (a6 al.length ao k) i=cl (a6 al.length ao k) (vA ao k)∧cl (a6 al.length ao k) j=cl (a6 al.length ao k) (vB ao k))∨(cl (a6 al.length ao k) i=cl (a6 al.length ao k) (vB ao k)∧cl (a6 al.length ao k) j=cl (a6 al.length ao k) (vA ao k))):=by
 rw[WW h]
 exact G9 (by rw[ke];exact hi) (by rw[ke];exact hj)
theorem Oj:∀{k:Nat},k≤ao.length→∀{j:Nat},j<k→cl (a6 al.length ao k) (vA ao j)=cl (a6 al.length ao k) (vB ao j)
 | 0,_,j,h=>by omega
 | k+1,hk,j,h=>by rw[U4 oM (KF fy oM) (Lf fy oM)];rcases cz j k with h1|h1;exact .inl (Oj oM h1);obtain rfl:j=k:=oM;exact .inr (.inl ⟨rfl,rfl⟩)
theorem B7{e:Edge}(h:e.step<ao.length):jQ ao e<al.length:=by unfold jQ;split;exact KF fy h;exact Lf fy h
theorem GR{k:Nat}(hk:k≤ao.length){e:Edge}(h:e.step<k):cl (a6 al.length ao k) (jc ao e)=cl (a6 al.length ao k) (jQ ao e):=by have:=Oj fy hk h;unfold jc jQ;cases e.back;simpa using this;simpa using this.symm
theorem BW{k:Nat}(hk:k≤ao.length):∀{es:List Edge}{a b:Nat},qT k es→r7 ao a es b→cl (a6 al.length ao k) a=cl (a6 al.length ao k) b
 | [],a,b,_,h=>by simp only[r7] at h;rw[h]
 | e::es,a,b,hw,h=>by rw[←h.1,GR fy hk (hw e (by simp))];exact BW hk (fun x hx=>hw x (bw _ hx)) h.2
theorem PR{k:Nat}(hk:k≤ao.length):∀{es:List Edge}{a b:Nat},qT k es→r7 ao a es b→a<al.length→b<al.length
 | [],a,b,_,h,ha=>by simp only[r7] at h;omega
 | e::es,a,b,hw,h,ha=>PR hk (fun x hx=>hw x (bw _ hx)) h.2 (B7 fy (by have:=hw e (by simp);omega))
theorem rK{k:Nat}(hk:k≤ao.length):∀{es:List Edge}{a b:Nat},qT k es→r7 ao a es b→∀v∈jl ao a es,cl (a6 al.length ao k) v=cl (a6 al.length ao k) a
 | [],a,b,_,h,v,hv=>by simp[jl] at hv;rw[hv]
 | e::es,a,b,hw,h,v,hv=>by simp only[jl,aV,az] at hv;rcases hv with e1|hv;rw[e1];rw[rK hk (fun x hx=>hw x (bw _ hx)) h.2 v (by simpa[jl] using hv),←h.1];exact(GR fy hk (hw e (by simp))).symm
theorem vL:∀{k:Nat},k≤ao.length→∀{es:List Edge}{a b:Nat},a<al.length→qT k es→r7 ao a es b→(jl ao a es).Nodup→es=n7 al.length ao k a b
 | 0,_,es,a,b,_,hw,h,_=>by
  cases es with
  | nil=>rfl
  | cons e es=>exact absurd (hw e (by simp)) oM
 | k+1,hk,es,a,b,ha,hw,h,hn=>by
  have hk':k≤ao.length:=oM;have hb:=PR fy hk hw h ha;rcases aa (qT k es) with kI|kI;have hs:=BW fy hk' kI h;rw[n7,if_pos hs];exact vL hk' ha kI h hn;have hsplit:∃p e q,es=p++e::q∧qT k p∧e.step=k:=by
   clear h hn hb;induction es with
   | nil=>exact absurd (fun e he=>by simp at he) kI
   | cons e es ih=>
    have he:=hw e (by simp);rcases cz e.step k with h1|h1;obtain⟨p,x,q,e1,e2,e3⟩:=ih (fun x hx=>hw x (bw _ hx)) (fun hin2=>kI fun x hx=>by
     rcases az.1 hx with e4|e4
     ·rw[e4];exact h1
     ·exact hin2 x e4)
    refine⟨e::p,x,q,by rw[e1];rfl,fun y hy=>?_,e3⟩;rcases az.1 hy with e4|e4;rw[e4];exact h1;exact e2 y e4;exact⟨[],e,es,rfl,fun x hx=>by simp at hx,oM⟩
  obtain⟨p,e,q,rfl,hp,hek⟩:=hsplit;obtain⟨m,w1,w2⟩:=AY.1 h;obtain⟨w3,w4⟩:=w2;subst w3;have hve:jl ao a (p++e::q)=jl ao a p++jl ao (jQ ao e) q:=(by simp[jl]);rw[hve] at hn;obtain⟨n1,n2,n3⟩:=dU.1 hn;have hq:qT k q:=(by intro x hx;have hx1:=hw x (by simp[hx]);rcases cz x.step k with h1|h1;exact h1;exfalso;have hxk:x.step=k:=oM;obtain⟨q1,q2,rfl⟩:=List.append_of_mem hx;obtain⟨m2,u1,u2⟩:=AY.1 w4;obtain⟨u3,u4⟩:=u2;have hs1:jc ao e∈jl ao a p:=K8 w1;have lj:jQ ao x≠jQ ao e:=(by intro he;have:(jQ ao e::(q1.map (jQ ao)++jQ ao x::q2.map (jQ ao))).Nodup:=(by simpa[jl] using n2);have:=(da.1 this).1;exact this (by simp[he]));have hne2:jQ ao x≠jc ao e:=(by intro he;exact n3 _ hs1 _ (by simp[jl]:jQ ao x∈jl ao (jQ ao e) (q1++x::q2)) he.symm);unfold jQ at lj hne2;unfold jc at hne2;rw[hxk,hek] at lj hne2;cases h5:x.back<;>cases h6:e.back<;>simp[h5,h6] at lj hne2);have nS:jc ao e<al.length:=PR fy hk' hp w1 ha;have hlt2:jQ ao e<al.length:=B7 fy oM;have hok2:=(qR fy (k:=k) oM).ne;have i1:=vL hk' ha hp w1 n1;have i2:=vL hk' hlt2 hq w4 n2;have s1:=BW fy hk' hp w1;have s2:=BW fy hk' hq w4;rw[n7];unfold jc at i1 s1;unfold jQ at i2 s2;rw[hek] at i1 i2 s1 s2;obtain⟨st,bk⟩:=e;simp only at hek;subst hek;cases bk;simp only[au,if_false,vA,vB] at i1 i2 s1 s2;rw[if_neg (by rw[s1,←s2];exact hok2),if_pos s1,←i1,←i2];simp only[if_true,vA,vB] at i1 i2 s1 s2;rw[if_neg (by rw[s1,←s2];exact fun h=>hok2 h.symm),if_neg (by rw[s1];exact fun h=>hok2 h.symm),←i1,←i2]
theorem vo:∀{k:Nat},k≤ao.length→∀{a b:Nat},a<al.length→b<al.length→cl (a6 al.length ao k) a=cl (a6 al.length ao k) b →
 qT k (n7 al.length ao k a b)∧r7 ao a (n7 al.length ao k a b) b∧(jl ao a (n7 al.length ao k a b)).Nodup
 | 0,_,a,b,ha,hb,h=>by
  have e:∀i,i<al.length→cl (a6 al.length ao 0) i=i:=fun i hi=>by rw[jt (by rw[ke];exact hi)];simp[a6]
  rw[e a ha,e b hb] at h;subst h;exact⟨fun x hx=>by simp[n7] at hx,rfl,by simp[n7,jl]⟩
 | k+1,hk,a,b,ha,hb,h=>by have hk':k≤ao.length:=oM;have up:∀{es:List Edge},qT k es→qT (k+1) es:=fun hw e he=>Nat.lt_succ_of_lt (hw e he);rw[U4 oM ha hb] at h;have hA:=KF fy (k:=k) oM;have hB:=Lf fy (k:=k) oM;have lj:=(qR fy (k:=k) oM).ne;rw[n7];rcases aa (cl (a6 al.length ao k) a=cl (a6 al.length ao k) b) with h1|h1;rw[if_pos h1];obtain⟨i1,i2,i3⟩:=vo hk' ha hb h1;exact⟨up i1,i2,i3⟩;rw[if_neg h1];rcases h with h|⟨h,h'⟩|⟨h,h'⟩;exact(h1 h).elim;rw[if_pos (show _=cl _ (jC ao k).A.toNat from h)];obtain⟨i1,i2,i3⟩:=vo hk' ha hA h;obtain⟨j1,j2,j3⟩:=vo hk' hB hb h'.symm;refine⟨?_,AY.2 ⟨_,i2,rfl,j2⟩,?_⟩;intro x hx;rcases aO.1 hx with e|e;exact up i1 x e;rcases az.1 e with e|e;rw[e];exact Nat.lt_succ_self k;exact up j1 x e;have hve:jl ao a (n7 al.length ao k a (vA ao k)++⟨k,false⟩::n7 al.length ao k (vB ao k) b)=jl ao a (n7 al.length ao k a (vA ao k))++jl ao (vB ao k) (n7 al.length ao k (vB ao k) b):=(by simp[jl,jQ]);refine hve▸dU.2 ⟨i3,j3,fun x hx y hy e=>?_⟩;have s1:=rK fy hk' i1 i2 x hx;have s2:=rK fy hk' j1 j2 y hy;rw[←e,s1] at s2;exact lj (h.symm.trans s2);have h2:¬cl (a6 al.length ao k) a=cl (a6 al.length ao k) (jC ao k).A.toNat:=fun h3=>lj (h3.symm.trans h);rw[if_neg h2];obtain⟨i1,i2,i3⟩:=vo hk' ha hB h;obtain⟨j1,j2,j3⟩:=vo hk' hA hb h'.symm;refine⟨?_,AY.2 ⟨_,i2,rfl,j2⟩,?_⟩;intro x hx;rcases aO.1 hx with e|e;exact up i1 x e;rcases az.1 e with e|e;rw[e];exact Nat.lt_succ_self k;exact up j1 x e;have hve:jl ao a (n7 al.length ao k a (vB ao k)++⟨k,true⟩::n7 al.length ao k (vA ao k) b)=jl ao a (n7 al.length ao k a (vB ao k))++jl ao (vA ao k) (n7 al.length ao k (vA ao k) b):=(by simp[jl,jQ]);refine hve▸dU.2 ⟨i3,j3,fun x hx y hy e=>?_⟩;have s1:=rK fy hk' i1 i2 x hx;have s2:=rK fy hk' j1 j2 y hy;rw[←e,s1] at s2;exact h2 s2
end
def kq(df:List (Nat×Edge)):List Nat:=df.map Prod.fst
structure Met(N:Nat)(ao:List Step)(n from_:Nat)(df:List (Nat×Edge)):Prop where
 head:(kq df)[0]?=some from_
 nod:(kq df).Nodup
 lt:∀v∈kq df,v<N
 by_:∀(j:Nat)(v:Nat)(e:Edge),df[j]?=some (v,e)→0<j→e.step<n∧jQ ao e=v∧∃i,i<j∧(kq df)[i]?=some (jc ao e)
def Seen(ao:List Step)(n:Nat)(df:List (Nat×Edge))(v:Nat):Prop:=∀k,k<n→(vA ao k=v→vB ao k∈kq df)∧(vB ao k=v→vA ao k∈kq df)
def yP(ao:List Step)(n:Nat)(df:List (Nat×Edge))(i:Nat):Prop:=∀j v,j<i→(kq df)[j]?=some v→Seen ao n df v
theorem mg{N:Nat}:∀{l:List Nat},l.Nodup→(∀v∈l,v<N)→l.length≤N:=by intro l h1 h2;have:=(List.nodup_range (n:=N));have hs:l.length≤(bK N).length:=List.Nodup.length_le_of_subset h1 fun v hv=>gz.2 (h2 v hv);simpa using hs
theorem x6(df:List (Nat×Edge)):(kq df).length=df.length:=by simp[kq]
theorem lL(a b:List (Nat×Edge)):kq (a++b)=kq a++kq b:=by simp[kq]
theorem XC{N:Nat}{ao:List Step}{n f:Nat}{df:List (Nat×Edge)}(h:Met N ao n f df):df.length≤N:=by rw[←x6];exact mg h.nod h.lt
theorem YC{N:Nat}{ao:List Step}{n f:Nat}(hf:f<N)(e:Edge):Met N ao n f [(f,e)]:=
 ⟨rfl,by simp[kq],fun v hv=>by simp[kq] at hv;omega,fun j v e h hj=>by
  cases j with
  | zero=>omega
  | succ j=>simp at h⟩
theorem Ww{N:Nat}{ao:List Step}{n f:Nat}{df:List (Nat×Edge)}(h:Met N ao n f df){e:Edge}{i v:Nat}(he:e.step<n)(hi:(kq df)[i]?=some v)(hs:jc ao e=v)(hn:jQ ao e∉kq df)(nS:jQ ao e<N) :
 Met N ao n f (df++[(jQ ao e,e)]):=by
 have hl:=x6 df
 have hi2:i<df.length:=by rw[←hl];exact(bV.1 hi).1
 refine⟨?_,?_,?_,?_⟩
 ·rw[lL,bF oM];exact h.head
 ·rw[lL]
  refine dU.2 ⟨h.nod,by simp[kq],fun x hx y hy e1=>?_⟩
  simp only[kq,aV,dS,az,bf,or_false] at hy
  rw[e1,hy] at hx
  exact hn hx
 ·intro x hx
  rw[lL] at hx
  rcases aO.1 hx with hx|hx
  ·exact h.lt x hx
  ·simp only[kq,aV,dS,az,bf,or_false] at hx
   omega
 ·intro j w x hx hj
  rcases fV j df.length with h1|h1|h1
  ·rw[bF h1] at hx
   obtain⟨a1,a2,k,a3,a4⟩:=h.by_ j w x hx hj
   exact⟨a1,a2,k,a3,by rw[lL,bF oM];exact a4⟩
  ·subst h1
   rw[bO (aK _)] at hx
   simp only[mo,iV,Option.some.injEq,Prod.mk.injEq] at hx
   obtain⟨rfl,rfl⟩:=hx
   exact⟨he,rfl,i,hi2,by rw[lL,bF oM,hi,hs]⟩
  ·grind
theorem OC{ao:List Step}{n:Nat}{a b:List (Nat×Edge)}{v:Nat}(h:Seen ao n a v):Seen ao n (a++b) v:=fun k hk=>by rw[lL];exact⟨fun e=>dI _ ((h k hk).1 e),fun e=>dI _ ((h k hk).2 e)⟩
theorem EH{ao:List Step}{n:Nat}{a b:List (Nat×Edge)}{i:Nat}(hi:i≤a.length)(h:yP ao n a i):yP ao n (a++b) i:=fun j v hj hv=>by rw[lL,bF (by rw[x6];omega)] at hv;exact OC (h j v hj hv)
theorem Pf{ao:List Step}{n:Nat}{df:List (Nat×Edge)}{i v:Nat}(h:yP ao n df i)(hv:(kq df)[i]?=some v)(hs:Seen ao n df v):yP ao n df (i+1):=fun j w hj hw=>by rcases cz j i with h1|h1;exact h j w h1 hw;grind
theorem FO{ao:List Step}{n:Nat}{df:List (Nat×Edge)}(h:yP ao n df df.length):∀{es:List Edge}{a b:Nat},qT n es→r7 ao a es b→a∈kq df→b∈kq df
 | [],a,b,_,hw,ha=>by simp only[r7] at hw;rw[←hw];exact ha
 | e::es,a,b,hi,hw,ha=>by obtain⟨j,hj,hj2⟩:=List.mem_iff_getElem.1 ha;have hs:=h j a (by rw[←x6];exact hj) (by rw[af hj,hj2]);have he:=hi e (by simp);refine FO h (fun x hx=>hi x (bw _ hx)) hw.2 ?_;have h1:=hw.1;unfold jc at h1;unfold jQ;cases hb:e.back;rw[hb] at h1;simp only[au,if_false] at h1⊢;exact(hs e.step he).1 h1;rw[hb] at h1;simp only[if_true] at h1⊢;exact(hs e.step he).2 h1
structure ab2(ao:List Step)(n to:Nat)(df:List (Nat×Edge))(j t:Nat)(out:List Edge):Prop where
 at_:(kq df)[j]?=some t
 in_:qT n out.reverse
 walk:r7 ao t out.reverse to
 nod:(jl ao t out.reverse).Nodup
 N1:∀w∈out.reverse.map (jQ ao),∃i,j<i∧(kq df)[i]?=some w
theorem Vo{ao:List Step}{n to:Nat}{df:List (Nat×Edge)}{j:Nat}(h:(kq df)[j]?=some to):ab2 ao n to df j to []:=
 ⟨h,fun e he=>by simp at he,rfl,by simp[jl],fun w hw=>by simp at hw⟩
theorem aae{l:List Nat}(h:l.Nodup){i j v:Nat}(hi:l[i]?=some v)(hj:l[j]?=some v):i=j:=by obtain⟨h1,h2⟩:=bV.1 hi;obtain⟨h3,h4⟩:=bV.1 hj;exact(List.getElem_inj h).1 (h2.trans h4.symm)
theorem XU{N:Nat}{ao:List Step}{n f to:Nat}{df:List (Nat×Edge)}{j t:Nat}{out:List Edge}{e:Edge}(hm:Met N ao n f df)(h:ab2 ao n to df j t out)(he:df[j]?=some (t,e))(hj:0<j) :
 ∃i,i<j∧ab2 ao n to df i (jc ao e) (out++[e]):=by
 obtain⟨h1,h2,i,h3,h4⟩:=hm.by_ j t e he hj
 have N1:∀w∈(out++[e]).reverse.map (jQ ao),∃k,i<k∧(kq df)[k]?=some w:=by intro w hw;simp only[pI,List.reverse_cons,List.reverse_nil,bS,bI,aV,az] at hw;rcases hw with e1|hw;exact⟨j,h3,by rw[e1,h2];exact h.at_⟩;obtain⟨k,k1,k2⟩:=h.N1 w hw;exact⟨k,oM,k2⟩
 refine⟨i,h3,h4,?_,?_,?_,N1⟩
 ·intro x hx
  simp only[pI,List.reverse_cons,List.reverse_nil,bS,bI,az] at hx
  rcases hx with e1|hx
  ·rw[e1];exact h1
  ·exact h.in_ x hx
 ·simp only[pI,List.reverse_cons,List.reverse_nil,bS,bI,r7,true_and]
  rw[h2]
  exact h.walk
 ·refine da.2 ⟨fun hmem=>?_,?_⟩
  ·obtain⟨k,k1,k2⟩:=N1 _ hmem
   have:=aae hm.nod h4 k2
   omega
  ·have:=h.nod
   simp only[pI,List.reverse_cons,List.reverse_nil,bS,bI,aV]
   rw[h2]
   exact this
theorem abU{al:List ax}{bB:List hY}{ao:List Step}{n f to:Nat}{df:List (Nat×Edge)}{j:Nat}{out:List Edge}(fy:nJ al bB ao)(hn:n≤ao.length)(hf:f<al.length)(h:ab2 ao n to df j f out):out.reverse=n7 al.length ao n f to:=
 vL fy hn hf h.in_ h.walk h.nod
theorem oO{α:Type}{l:List α}{i:Nat}{d:α}(h:i<l.length):l.getD i d∈l:=by rw[aB,af h];exact aj h
theorem getD_at{α:Type}{l:List α}{i:Nat}{d:α}(h:i<l.length):l.getD i d=l[i]:=by rw[aB,af h];rfl
structure Mx(n:Nat)(r:dK):Prop where
 lG:fF r.lG=true
 len:r.ie.length=n
 bd:∀u∈r.ie,0≤u∧u≤1000000
def Ar(n:Nat)(aw:List dK):Prop:=aw.length≤200∧∀r∈aw,Mx n r
theorem Mx.X1{n:Nat}{r:dK}(h:Mx n r)(v:Nat):-1000000≤cq r v∧cq r v≤1000000:=by obtain⟨h1,h2,_⟩:=iM.1 h.lG;unfold cq;rcases cz v r.lG.aW.length with h3|h3;exact h2 _ (oO h3);rw[aB,bM h3];exact⟨by decide,by decide⟩
theorem YN(n i:Nat):(wX n i).length=n:=by simp[wX]
theorem abC{n i:Nat}:∀u∈wX n i,0≤u∧u≤1000000:=by intro u hu;rcases List.mem_or_eq_of_mem_set hu with h|h;rw[(List.mem_replicate.1 h).2];omega;rw[h];omega
theorem Pu(ls:List j8):(b6 ls).length=ls.length:=by simp[b6]
theorem Hv{ls:List j8}(h:iU ls=true):Ar ls.length (b6 ls):=by simp only[iU,ah,decide_eq_true_eq,cV] at h;refine⟨by rw[Pu];omega,fun r hr=>?_⟩;simp only[b6,bN,gz] at hr;obtain⟨i,hi,rfl⟩:=hr;exact⟨h.2 _ (oO hi),YN _ _,abC⟩
theorem Jm{n:Nat}{a b:dK}{v:Nat}(ha:Mx n a)(hb:Mx n b)(h1:0<cq a v)(h2:cq b v<0) :
 (1≤xZ a b v∧xZ a b v≤1000000)∧(1≤rE a b v∧rE a b v≤1000000)∧(1≤rB a b v∧rB a b v≤1000000):=by
 have ca:=ha.X1 v
 have cb:=hb.X1 v
 have key:∀{x y:Int},0<x→0<y→x≤1000000→(1≤(b9 x y:Int)∧(b9 x y:Int)≤x)∧(1≤x.tdiv (b9 x y)∧x.tdiv (b9 x y)≤x):=by intro x y hx hy hm;have g1:0<b9 x y:=Int.gcd_pos_of_ne_zero_left _ oM;have g2:(b9 x y:Int)∣x:=Int.gcd_dvd_left ..;have g3:(b9 x y:Int)≤x:=Int.le_of_dvd hx g2;refine⟨⟨oM,g3⟩,?_,?_⟩;rw[lQ oM];exact Int.le_ediv_of_mul_le oM oM;rw[lQ oM];exact Int.ediv_le_self _ oM
 have k1:=key h1 (y:=-(cq b v)) oM ca.2
 have k2:=key (x:=-(cq b v)) (y:=cq a v) oM h1 oM
 rw[Int.gcd_comm] at k2
 unfold rE rB xZ
 omega
theorem Wz:∀{m n:Int}{as bs:List Int},(0≤m∧m≤1000000)→(0≤n∧n≤1000000)→(∀u∈as,0≤u∧u≤1000000)→(∀u∈bs,0≤u∧u≤1000000)→∀u∈iC m n as bs,0≤u∧u≤2000000000000
 | _,_,[],_,_,_,_,_,u,hu=>by simp[iC] at hu
 | _,_,_::_,[],_,_,_,_,u,hu=>by simp[iC] at hu
 | m,n,a::as,b::bs,hm,hn,h1,h2,u,hu=>by simp only[iC,az] at hu;rcases hu with e|hu;have ha:=h1 a (by simp);have hb:=h2 b (by simp);have p1:0≤m*a:=Int.mul_nonneg hm.1 ha.1;have p2:0≤n*b:=Int.mul_nonneg hn.1 hb.1;have p3:=(gh hm.1 hm.2 (b:=a) ⟨oM,ha.2⟩).2;have p4:=(gh hn.1 hn.2 (b:=b) ⟨oM,hb.2⟩).2;rw[e];omega;exact Wz hm hn (fun x hx=>h1 x (bw _ hx)) (fun x hx=>h2 x (bw _ hx)) u hu
theorem Zd{a b:j8}{m n:Int}(h:(fL a m b n).2=true):fF (fL a m b n).1=true:=by unfold fL nO at h⊢;split;rename_i h1;rw[if_pos h1] at h;split;rename_i h2;exact h2;rename_i h2;rw[if_neg h2] at h;cases h;rename_i h1;rw[if_neg h1] at h;cases h
theorem abq{n:Nat}{a b:dK}{v:Nat}(ha:Mx n a)(hb:Mx n b)(h1:0<cq a v)(h2:cq b v<0)(h:xC a b v=true):Mx n (D5 a b v):=by simp only[xC,ah,cV,decide_eq_true_eq] at h;obtain⟨_,hp,hq⟩:=Jm ha hb h1 h2;refine⟨Zd h.1,?_,fun u hu=>⟨?_,h.2 u hu⟩⟩;show(iC _ _ _ _).length=n;rw[pW (by rw[ha.len,hb.len]),ha.len];exact(Wz ⟨oM,hq.2⟩ ⟨oM,hp.2⟩ ha.bd hb.bd u hu).1
theorem VS{a:dK}{v:Nat}{aw:List dK}{p:dK×dK}(h:p∈rI a v aw):p.1=a∧p.2∈aw∧0<cq p.1 v∧cq p.2 v<0:=by simp only[rI,List.mem_filterMap] at h;obtain⟨b,hb,e⟩:=h;split at e;rename_i hc;simp only[Option.some.injEq] at e;rw[←e];exact⟨rfl,hb,hc.1,hc.2⟩;cases e
theorem H6{n v:Nat}:∀{ps:List (dK×dK)}{out r:List dK},(∀p∈ps,Mx n p.1∧Mx n p.2∧0<cq p.1 v∧cq p.2 v<0)→Ar n out→oV v ps out=some r→Ar n r
 | [],out,r,_,ho,h=>by simp only[oV,Option.some.injEq] at h;rw[←h];exact ho
 | (a,b)::ps,out,r,hp,ho,h=>by rw[oV] at h;split at h;rename_i hc;obtain⟨g1,g2,g3,g4⟩:=hp (a,b) (by simp);refine H6 (fun p hq=>hp p (bw _ hq)) ⟨by simp;omega,fun x hx=>?_⟩ h;rcases aO.1 hx with e|e;exact ho.2 x e;simp only[az,bf,or_false] at e;rw[e];exact abq g1 g2 g3 g4 hc.1;cases h
theorem Y8{n v:Nat}{all aw:List dK}(h1:∀r∈all,Mx n r)(h2:∀r∈aw,Mx n r):∀p∈rS all aw v,Mx n p.1∧Mx n p.2∧0<cq p.1 v∧cq p.2 v<0:=by intro p hp;simp only[rS,hX] at hp;obtain⟨a,ha,hb⟩:=hp;obtain⟨e1,e2,e3,e4⟩:=VS hb;exact⟨e1▸h2 a ha,h1 _ e2,e3,e4⟩
theorem mj{n v:Nat}{aw r:List dK}(h:Ar n aw)(hr:jo aw v=some r):Ar n r:=
 H6 (Y8 h.2 h.2) ⟨Nat.le_trans (List.length_filter_le _ _) h.1,fun x hx=>h.2 x (List.mem_filter.1 hx).1⟩ hr
theorem HS{a:dK}{v j:Nat}{aw:List dK}(h:j<aw.length):rI a v (aw.drop j)=(if 0<cq a v∧cq aw[j] v<0 then [(a,aw[j])] else [])++rI a v (aw.drop (j+1)):=by unfold rI;rw[ae h,List.filterMap_cons];split<;>simp_all
theorem TH{a:dK}{v:Nat}{aw:List dK}(h:¬0<cq a v):rI a v aw=[]:=by unfold rI;refine List.filterMap_eq_nil_iff.2 fun b _=>?_;rw[if_neg oM]
theorem HH{v i:Nat}{all aw:List dK}(h:i<aw.length):rS all (aw.drop i) v=rI aw[i] v all++rS all (aw.drop (i+1)) v:=by unfold rS;rw[ae h,List.flatMap_cons]
theorem Hr{α:Type}{p:α→Bool}{l:List α}{i:Nat}(h:i<l.length):(l.take (i+1)).filter p=(l.take i).filter p++(if p l[i] then [l[i]] else []):=by rw[bz,af h,List.filter_append];congr 1;simp only[Option.toList_some,List.filter_cons,List.filter_nil]
theorem J4(xs:List Rat)(sum:Rat):mY [] xs sum=some sum:=by cases xs<;>rfl
theorem T7(v i:Nat)(xs:List Rat)(sum:Rat):tL v i [] xs sum=some sum:=by cases xs<;>rfl
theorem Tx{v i:Nat}{cs:List Int}{xs:List Rat}(h:i<cs.length)(h':i<xs.length)(sum:Rat):tL v i (cs.drop i) (xs.drop i) sum=if i=v then tL v (i+1) (cs.drop (i+1)) (xs.drop (i+1)) sum else if(plus sum (-cs[i]) xs[i]).2 then tL v (i+1) (cs.drop (i+1)) (xs.drop (i+1)) (plus sum (-cs[i]) xs[i]).1 else none:=by rw[ae h,ae h',tL]
theorem Sy{i:Nat}{cs:List Int}{xs:List Rat}(h:i<cs.length)(h':i<xs.length)(sum:Rat):mY (cs.drop i) (xs.drop i) sum=if(plus sum cs[i] xs[i]).2 then mY (cs.drop (i+1)) (xs.drop (i+1)) (plus sum cs[i] xs[i]).1 else none:=by rw[ae h,ae h',mY]
theorem SW{v i:Nat}{aF:List Rat}{aw:List dK}(h:i<aw.length)(lo hi:Option Rat):qW v aF (aw.drop i) lo hi=if cq aw[i] v=0 then qW v aF (aw.drop (i+1)) lo hi else match pd aw[i].lG v aF with
 | none=>none
 | some b=>if 0<cq aw[i] v then qW v aF (aw.drop (i+1)) lo (if lower b hi then some b else hi) else qW v aF (aw.drop (i+1)) (if upper b lo then some b else lo) hi:=by
 rw[ae h,qW]
 try rfl
theorem H4{n d:Int}(h:(jO n d).2=false):(jO n d).1=lW:=by unfold jO at h⊢;split;rfl;rename_i h0;rw[if_neg h0] at h;simp only at h⊢;generalize (⟨_,_⟩:Rat)=x at h⊢;cases hx:cP x;simp;simp[hx] at h
theorem xd{a b:Rat}(h:(eL a b).2=false):(eL a b).1=lW:=by unfold eL at h⊢;split;rename_i h0;rw[if_pos h0] at h;exact H4 h;rfl
theorem Hs{a b:Rat}(h:(dt a b).2=false):(dt a b).1=lW:=by unfold dt at h⊢;split;rename_i h0;rw[if_pos h0] at h;exact H4 h;rfl
theorem SX{a b:Rat}(h:(tF a b).2=false):(tF a b).1=lW:=by unfold tF at h⊢;split;rename_i h0;rw[if_pos h0] at h;exact Hs h;rfl
theorem O5{x:Rat×Bool}(h:x.2=false→x.1=lW):(Dv x).getD lW=x.1∧(Dv x).isSome=x.2:=by unfold Dv;cases hx:x.2;rw[if_neg (by simp),h hx];exact⟨rfl,rfl⟩;rw[if_pos rfl];exact⟨rfl,rfl⟩
theorem PF:∀{l h:Option Rat},(mN l h).2=false→(mN l h).1=lW
 | some _,some _,h=>SX h
 | none,some _,h=>xd h
 | some _,none,h=>xd h
 | none,none,h=>by cases h
theorem wG{aw:List dK}{v:Nat}{aF:List Rat}{st:List (List dK)}(h:valueOf aw v aF=none):oq (aw::st) v aF=none:=by rw[oq,h]
theorem wz{aw:List dK}{v:Nat}{aF:List Rat}{st:List (List dK)}{x:Rat}(h:valueOf aw v aF=some x):oq (aw::st) v aF=oq st (v+1) (aF.set v x):=by rw[oq,h]
theorem S0{l:List Rat}{i:Nat}{x:Rat}:(bQ l).set i (fZ x)=bQ (l.set i x):=by simp[bQ,lp]
theorem tr{l:List Rat}{i:Nat}{x:Rat}(h:i<l.length):(bQ l).set i (wm (row (bQ l) i) 0 [.val (.int .i64 x.N),.val (.int .i64 x.D)])=bQ (l.set i x):=by rw[A6 h,←S0];rfl
theorem oJ{s n:Nat}{p:Nat×Nat}:p∈ff s n↔s≤p.1∧p.1<p.2∧p.2<n:=by obtain⟨i,k⟩:=p;simp only[ff,hX,bN,List.mem_range'_1,Prod.mk.injEq];constructor;rintro⟨i',h1,k',h2,rfl,rfl⟩;omega;rintro⟨h1,h2,h3⟩;exact⟨i,oM,k,oM,rfl,rfl⟩
theorem IA{i n:Nat}(h:i<n):ff i n=(fk (i+1) (n-(i+1))).map (fun k=>(i,k))++ff (i+1) n:=by unfold ff;rw[qz h];rfl
theorem qM{i n:Nat}(h:n≤i):ff i n=[]:=by unfold ff;rw[rX h];rfl
theorem nf{n:Nat}{p:Nat→Nat→Bool}{q:Nat×Nat}(h:dj n p=some q):q.1<q.2∧q.2<n∧p q.1 q.2=true:=by have h1:=List.find?_some h;have h2:=oJ.1 (gj h);exact⟨h2.2.1,h2.2.2,h1⟩
theorem BB{n:Nat}{p:Nat→Nat→Bool}(h:dj n p=none){i k:Nat}(h1:i<k)(h2:k<n):p i k=false:=by have:=List.find?_eq_none.1 h (i,k) (oJ.2 ⟨bo _,h1,h2⟩);simpa using this
theorem countP_le{α:Type}{p q:α→Bool}:∀{l:List α},(∀x∈l,p x=true→q x=true)→l.countP p≤l.countP q
 | [],_=>aK _
 | x::l,h=>by have:=countP_le (l:=l) fun y hy=>h y (bw _ hy);have hx:=h x (by simp);simp only[List.countP_cons];cases hp:p x;simp;omega;simp[hx hp];omega
theorem GC{α:Type}{p q:α→Bool}:∀{l:List α}{x:α},(∀x∈l,p x=true→q x=true)→x∈l→p x=false→q x=true→l.countP p<l.countP q
 | y::l,x,h,hx,hp,hq=>by simp only[List.countP_cons];rcases az.1 hx with e|e;have:=countP_le (l:=l) fun y hy=>h y (bw _ hy);rw[←e,hp,hq];simp;omega;have:=GC (l:=l) (fun y hy=>h y (bw _ hy)) e hp hq;have hy:=h y (by simp);cases hpy:p y;simp;omega;simp[hy hpy];omega
theorem zc(ai:List ax)(out:List Nat)(e:hY):(fY ai out e).length=out.length:=by unfold fY;split<;>simp
theorem uY(ai:List ax)(bB:List hY):(mR ai bB).length=ai.length:=by
 unfold mR;have:∀(l:List hY)(c:List Nat),(l.foldl (fY ai) c).length=c.length:=by
  intro l;induction l with
  | nil=>intro c;rfl
  | cons s l ih=>intro c;rw[gX,ih,zc]
 rw[this,ij]
theorem KS(ai:List ax)(bB:List hY)(e:hY):mR ai (bB++[e])=fY ai (mR ai bB) e:=by rw[mR,mr];rfl
theorem MP{ai:List ax}{out:List Nat}{e:hY}{i k:Nat}(hi:i<out.length)(hk:k<out.length)(h:cl out i=cl out k):cl (fY ai out e) i=cl (fY ai out e) k:=by unfold fY;split;exact h;rw[yy hi,yy hk,h]
theorem Oq(a b:List bL):br (a++b)=br a++br b:=by simp[br]
theorem SZ(a b:ax):br [jf a b]=[⟨a,b⟩]:=rfl
theorem Rx{ai:List ax}{ab more:List bL}{i k:Nat}(hi:i<ai.length)(hk:k<ai.length)(h:gp ai ab i k=true):gp ai (ab++more) i k=true:=by
 simp only[gp,decide_eq_true_eq] at h⊢;rw[Oq];generalize br more=es;generalize br ab=ds at h;induction es generalizing ds with
 | nil=>rw[bE];exact h
 | cons e es ih=>
  have:=ih (ds++[e]) (by
   rw[KS]
   exact MP (by rw[uY];exact hi) (by rw[uY];exact hk) h)
  rw[bC] at this;exact this
theorem lK{ai:List ax}(hn:ai.Nodup){i:Nat}(hi:i<ai.length):b8 ai ai[i]=i:=by have hm:ai[i]∈ai:=aj hi;have h1:=kz hm;have h2:=dE.2 hm;obtain⟨h3,h4⟩:=bV.1 h1;have:=(List.getElem_inj hn).1 h4;omega
theorem gi{ai:List ax}{i:Nat}(hi:i<ai.length):ai.getD i aQ=ai[i]:=by rw[aB,af hi];rfl
theorem VG{ai:List ax}(hn:ai.Nodup){ab:List bL}{i k:Nat}(hi:i<ai.length)(hk:k<ai.length):gp ai (ab++[jf (ai.getD i aQ) (ai.getD k aQ)]) i k=true:=by simp only[gp,decide_eq_true_eq];rw[Oq,SZ,KS,fY,gi hi,gi hk];have e1:=lK hn hi;have e2:=lK hn hk;simp only[e1,e2,aM,bc];rw[if_neg oM,yy (by rw[uY];exact hi),yy (by rw[uY];exact hk)];simp
theorem HI{ai:List ax}{ab more:List bL}{i k:Nat}(h:fW ai ab i k=true):fW ai (ab++more) i k=true:=by simp only[fW,List.any_append,Bool.or_eq_true] at h⊢;exact .inl h
theorem Kd(a b:ax):(fa a b).no=false:=by unfold fa;split<;>rfl
theorem Lq{ai:List ax}{ab:List bL}{i k:Nat}:fW ai (ab++[fa (ai.getD i aQ) (ai.getD k aQ)]) i k=true:=by simp[fW,Kd]
def tO(ai:List ax)(ab:List bL)(i k:Nat):Bool:=!gp ai ab i k&&(!fW ai ab i k&& !fW ai ab k i)
def room(ai:List ax)(ab:List bL):Nat:=(ff 0 ai.length).countP (fun q=>!gp ai ab q.1 q.2)+(ff 0 ai.length).countP (fun q=>tO ai ab q.1 q.2)
theorem zt{ai:List ax}{ab more:List bL}:∀q∈ff 0 ai.length,(!gp ai (ab++more) q.1 q.2)=true→(!gp ai ab q.1 q.2)=true:=by intro q hq h;have hm:=oJ.1 hq;cases hl:gp ai ab q.1 q.2;rfl;rw[Rx oM oM hl] at h;cases h
theorem TF{ai:List ax}{ab more:List bL}:∀q∈ff 0 ai.length,tO ai (ab++more) q.1 q.2=true→tO ai ab q.1 q.2=true:=by intro q hq h;simp only[tO,ah] at h⊢;refine⟨zt q hq h.1,?_,?_⟩;cases hl:fW ai ab q.1 q.2;rfl;rw[HI hl] at h;simp at h;cases hl:fW ai ab q.2 q.1;rfl;have:=h.2.2;rw[HI hl] at this;cases this
theorem adW{ai:List ax}(hn:ai.Nodup){ab:List bL}{i k:Nat}(h1:i<k)(h2:k<ai.length)(h:gp ai ab i k=false):room ai (ab++[jf (ai.getD i aQ) (ai.getD k aQ)])<room ai ab:=by unfold room;have a:=GC (x:=(i,k)) (zt (more:=[jf (ai.getD i aQ) (ai.getD k aQ)])) (oJ.2 ⟨bo _,h1,h2⟩) (by show(!gp ai (ab++[jf (ai.getD i aQ) (ai.getD k aQ)]) i k)=false;rw[VG hn (show i<ai.length by omega) h2];rfl) (by rw[h];rfl);have b:=countP_le (TF (ai:=ai) (ab:=ab) (more:=[jf (ai.getD i aQ) (ai.getD k aQ)]));omega
theorem NU{ai:List ax}{ab:List bL}{i k:Nat}(h1:i<k)(h2:k<ai.length)(h:tO ai ab i k=true){l:bL}(hl:l=fa (ai.getD i aQ) (ai.getD k aQ)∨l=fa (ai.getD k aQ) (ai.getD i aQ)):room ai (ab++[l])<room ai ab:=by
 unfold room;have a:=countP_le (zt (ai:=ai) (ab:=ab) (more:=[l]));have b:=GC (x:=(i,k)) (TF (ai:=ai) (ab:=ab) (more:=[l])) (oJ.2 ⟨bo _,h1,h2⟩) (by
  rcases hl with rfl|rfl
  ·simp only[tO,Lq];simp
  ·simp only[tO,Lq];simp) h
 omega
theorem room_le{ai:List ax}(h:ai.length≤4)(ab:List bL):room ai ab≤12:=by
 have a:=List.countP_le_length (p:=fun q:Nat×Nat=>!gp ai ab q.1 q.2) (l:=ff 0 ai.length);have b:=List.countP_le_length (p:=fun q:Nat×Nat=>tO ai ab q.1 q.2) (l:=ff 0 ai.length);have c:(ff 0 ai.length).length≤6:=by have key:∀n,n≤4→(ff 0 n).length≤6:=(by decide);exact key _ h
 unfold room;omega
def sg(ao:List Step)(v i:Nat):Option Edge:=if vB ao i=v then some ⟨i,true⟩ else if vA ao i=v then some ⟨i,false⟩ else none
def yp(rec_:Nat→List Nat→Option (List Edge))(ao:List Step)(v:Nat)(fl:List Nat):List Nat→Option (List Edge)
 | []=>none
 | i::is=>match sg ao v i with
   | none=>yp rec_ ao v fl is
   | some e=>if jQ ao e∈fl then yp rec_ ao v fl is else match rec_ (jQ ao e) (fl++[jQ ao e]) with
     | none=>yp rec_ ao v fl is
     | some r=>some (e::r)
def xy(ao:List Step)(n to:Nat):Nat→Nat→List Nat→Option (List Edge)
 | 0,_,_=>none
 | f+1,v,fl=>if v=to then some [] else yp (xy ao n to f) ao v fl (bK n)
def xT(e:Edge):Int:=if e.back then -1-(e.step:Int) else e.step
theorem Sz{ao:List Step}{v i:Nat}{e:Edge}(h:sg ao v i=some e):e.step=i∧jc ao e=v:=by unfold sg at h;split at h;rename_i h1;simp only[Option.some.injEq] at h;rw[←h];exact⟨rfl,h1⟩;split at h;rename_i h1;simp only[Option.some.injEq] at h;rw[←h];exact⟨rfl,h1⟩;cases h
def Found(ao:List Step)(n to v:Nat)(fl:List Nat)(es:List Edge):Prop:=qT n es∧r7 ao v es to∧(jl ao v es).Nodup∧∀w∈es.map (jQ ao),w∉fl
theorem La{ao:List Step}{n to v:Nat}{fl:List Nat}{rec_:Nat→List Nat→Option (List Edge)}(hv:v∈fl)(hr:∀w seen' es,w∈seen'→rec_ w seen'=some es→Found ao n to w seen' es) :
 ∀{is:List Nat}{es:List Edge},(∀i∈is,i<n)→yp rec_ ao v fl is=some es→Found ao n to v fl es
 | [],es,_,h=>by cases h
 | i::is,es,hi,h=>by have more:=La (is:=is) (es:=es) hv hr fun j hj=>hi j (bw _ hj);simp only[yp] at h;split at h;exact more h;rename_i e he;obtain⟨h1,h2⟩:=Sz he;split at h;exact more h;rename_i hs;split at h;exact more h;rename_i r kS;simp only[Option.some.injEq] at h;obtain⟨a1,a2,a3,a4⟩:=hr _ _ _ (by simp) kS;rw[←h];refine⟨fun x hx=>?_,⟨h2,a2⟩,?_,?_⟩;rcases az.1 hx with e1|hx;rw[e1,h1];exact hi i (by simp);exact a1 x hx;refine da.2 ⟨fun hm=>?_,?_⟩;simp only[aV,az] at hm;rcases hm with e1|hm;rw[e1] at hv;exact hs hv;exact a4 v hm (dI _ hv);exact a3;intro w hw hws;simp only[aV,az] at hw;rcases hw with e1|hw;rw[e1] at hws;exact hs hws;exact a4 w hw (dI _ hws)
theorem J9{ao:List Step}{n to:Nat}:∀(f v:Nat)(fl:List Nat)(es:List Edge),v∈fl→xy ao n to f v fl=some es→Found ao n to v fl es
 | 0,_,_,_,_,h=>by cases h
 | f+1,v,fl,es,hv,h=>by rw[xy] at h;split at h;rename_i e;simp only[Option.some.injEq] at h;rw[←h];exact⟨fun x hx=>by simp at hx,e,by simp[jl],fun w hw=>by simp at hw⟩;exact La hv (fun w s es hw hr=>J9 f w s es hw hr) (fun i hi=>gz.1 hi) h
theorem N9{ao:List Step}{v:Nat}{fl:List Nat}{rec_:Nat→List Nat→Option (List Edge)}{e:Edge}(he:sg ao v e.step=some e)(hs:jQ ao e∉fl)(hr:(rec_ (jQ ao e) (fl++[jQ ao e])).isSome=true) :
 ∀{is:List Nat},e.step∈is→(yp rec_ ao v fl is).isSome=true
 | i::is,hm=>by rcases az.1 hm with e1|hm;subst e1;simp only[yp,he,if_neg hs];obtain⟨r,kS⟩:=dA.1 hr;simp[kS];have more:=N9 he hs hr hm;simp only[yp];split;exact more;split;exact more;split;exact more;rfl
section
variable{al:List ax}{bB:List hY}{ao:List Step}(fy:nJ al bB ao)
include fy
theorem Tw{e:Edge}(h:e.step<ao.length):sg ao (jc ao e) e.step=some e:=by have lj:=(qR fy h).ne;obtain⟨k,b⟩:=e;unfold sg jc;cases b;simp only[au,if_false];rw[if_neg (fun he=>lj (by simp only[vA,vB] at he;rw[he])),if_pos True.intro];simp
theorem N5{n to:Nat}(hn:n≤ao.length):∀(es:List Edge)(f v:Nat)(fl:List Nat),fl.Nodup→(∀w∈fl,w<al.length)→al.length+1≤f+fl.length→qT n es→r7 ao v es to→(jl ao v es).Nodup→(∀w∈es.map (jQ ao),w∉fl) →
 (xy ao n to f v fl).isSome=true
 | es,0,v,fl,h1,h2,h3,_,_,_,_=>by have:=mg h1 h2;omega
 | [],f+1,v,fl,_,_,_,_,hw,_,_=>by simp only[r7] at hw;rw[xy,if_pos hw];rfl
 | e::es,f+1,v,fl,h1,h2,h3,hi,hw,hnd,hs=>by have he:=hi e (by simp);obtain⟨w1,w2⟩:=hw;have hto:to∈(e::es).map (jQ ao):=(by have:=K8 w2;simpa[jl] using this);have hv:v≠to:=fun h=>(da.1 hnd).1 (h▸hto);rw[xy,if_neg hv];have hen:jQ ao e∉fl:=hs _ (by simp);refine N9 (e:=e) (by rw[←w1];exact Tw fy oM) hen ?_ (gz.2 he);refine N5 hn es f _ _ (dU.2 ⟨h1,by simp,fun x hx y hy e1=>?_⟩) (fun w hw=>?_) (by simp;omega) (fun x hx=>hi x (bw _ hx)) w2 (da.1 hnd).2 (fun w hw hws=>?_);simp only[az,bf,or_false] at hy;rw[e1,hy] at hx;exact hen hx;rcases aO.1 hw with hw|hw;exact h2 w hw;simp only[az,bf,or_false] at hw;rw[hw];exact B7 fy oM;rcases aO.1 hws with hws|hws;exact hs w (by simp only[aV,az];exact .inr hw) hws;simp only[az,bf,or_false] at hws;have:=(da.1 (da.1 hnd).2).1;rw[hws] at hw;exact this hw
theorem ads{n a b:Nat}(hn:n≤ao.length)(ha:a<al.length)(hb:b<al.length)(h:cl (a6 al.length ao n) a=cl (a6 al.length ao n) b):xy ao n b al.length a [a]=some (n7 al.length ao n a b):=by
 obtain⟨i1,i2,i3⟩:=vo fy hn ha hb h;have hsome:=N5 fy hn (to:=b) _ al.length a [a] (by simp) (fun w hw=>by simp at hw;omega) (by simp) i1 i2 i3 (fun w hw hws=>by
  simp only[az,bf,or_false] at hws
  rw[hws] at hw
  exact(da.1 i3).1 hw)
 obtain⟨es,he⟩:=dA.1 hsome;obtain⟨f1,f2,f3,f4⟩:=J9 _ _ _ _ (by simp) he;rw[he,vL fy hn ha f1 f2 f3]
end
theorem Vz{n:Int}:ny n 0=(lW,false):=by unfold ny jO;split<;>simp
theorem Lc{n d:Int}(h:1000000000<ui n∨1000000000<ui d):ny n d=(lW,false):=by unfold ny;rw[if_neg];simp only[ah,dB];rintro⟨h1,h2⟩;have:=wO.2 h1;have:=wO.2 h2;omega
theorem aaG{n d:Int}(h1:ui n≤1000000000)(h2:ui d≤1000000000):ny n d=jO n d:=by unfold ny;rw[if_pos];simp only[ah,dB];exact⟨wO.1 h1,wO.1 h2⟩
theorem Sj{n d:Int}(h0:¬d=0)(h:d<0):jO n d=jO (-n) (-d):=by have h2:¬ -d<0:=oM;have h3:¬ -d=0:=oM;unfold jO;simp only[if_neg h0,if_pos h,if_neg h2,if_neg h3]
def wL:List Int→List Rat→Rat→Rat×Bool
 | c::cs,x::xs,sum=>if(dt (whole c) x).2 then(if(eL sum (dt (whole c) x).1).2 then wL cs xs (eL sum (dt (whole c) x).1).1 else(lW,false)) else(sum,false)
 | _,_,sum=>(sum,true)
theorem KG:∀{cs:List Int}{xs:List Rat}{sum:Rat},mY cs xs sum=Dv (wL cs xs sum)
 | [],_,sum=>rfl
 | _::_,[],sum=>rfl
 | c::cs,x::xs,sum=>by rw[mY,wL];rcases mK (dt (whole c) x).2 with h1|h1;have e:plus sum c x=eL sum (dt (whole c) x).1:=(by rw[plus,if_pos h1]);rw[e,if_pos h1];rcases mK (eL sum (dt (whole c) x).1).2 with h2|h2;rw[if_pos h2,if_pos h2];exact KG;rw[if_neg (by rw[h2];simp),if_neg (by rw[h2];simp)];rfl;have e:plus sum c x=(lW,false):=(by rw[plus,if_neg (by rw[h1];simp)]);rw[e,if_neg (by simp),if_neg (by rw[h1];simp)];rfl
theorem Uz{i:Nat}{cs:List Int}{xs:List Rat}(h:i<cs.length)(h':i<xs.length)(sum:Rat):wL (cs.drop i) (xs.drop i) sum=if(dt (whole cs[i]) xs[i]).2 then(if(eL sum (dt (whole cs[i]) xs[i]).1).2 then wL (cs.drop (i+1)) (xs.drop (i+1)) (eL sum (dt (whole cs[i]) xs[i]).1).1 else(lW,false)) else(sum,false):=by rw[ae h,ae h',wL]
theorem YP(xs:List Rat)(sum:Rat):wL [] xs sum=(sum,true):=by cases xs<;>rfl
theorem NT:∀{cs:List Int}{xs:List Rat}{sum r:Rat},cP sum=true→mY cs xs sum=some r→cP r=true
 | [],_,sum,r,h,e=>by simp only[mY,Option.some.injEq] at e;rw[←e];exact h
 | _::_,[],sum,r,h,e=>by simp only[mY,Option.some.injEq] at e;rw[←e];exact h
 | c::cs,x::xs,sum,r,h,e=>by simp only[mY] at e;split at e;rename_i h1;exact NT (Xw h1) e;cases e
def pF(v:Nat):Nat→List Int→List Rat→Rat→Rat×Bool
 | i,c::cs,x::xs,sum=>if i=v then pF v (i+1) cs xs sum else if(dt (whole (-c)) x).2 then(if(eL sum (dt (whole (-c)) x).1).2 then pF v (i+1) cs xs (eL sum (dt (whole (-c)) x).1).1 else(lW,false)) else(sum,false)
 | _,_,_,sum=>(sum,true)
theorem GF{v:Nat}:∀{i:Nat}{cs:List Int}{xs:List Rat}{sum:Rat},tL v i cs xs sum=Dv (pF v i cs xs sum)
 | _,[],_,sum=>rfl
 | _,_::_,[],sum=>rfl
 | i,c::cs,x::xs,sum=>by rw[tL,pF];split;exact GF;rcases mK (dt (whole (-c)) x).2 with h1|h1;have e:plus sum (-c) x=eL sum (dt (whole (-c)) x).1:=(by rw[plus,if_pos h1]);rw[e,if_pos h1];rcases mK (eL sum (dt (whole (-c)) x).1).2 with h2|h2;rw[if_pos h2,if_pos h2];exact GF;rw[if_neg (by rw[h2];simp),if_neg (by rw[h2];simp)];rfl;have e:plus sum (-c) x=(lW,false):=(by rw[plus,if_neg (by rw[h1];simp)]);rw[e,if_neg (by simp),if_neg (by rw[h1];simp)];rfl
theorem RG{v i:Nat}{cs:List Int}{xs:List Rat}(h:i<cs.length)(h':i<xs.length)(sum:Rat):pF v i (cs.drop i) (xs.drop i) sum=if i=v then pF v (i+1) (cs.drop (i+1)) (xs.drop (i+1)) sum else if(dt (whole (-cs[i])) xs[i]).2 then(if(eL sum (dt (whole (-cs[i])) xs[i]).1).2 then pF v (i+1) (cs.drop (i+1)) (xs.drop (i+1)) (eL sum (dt (whole (-cs[i])) xs[i]).1).1 else(lW,false)) else(sum,false):=by rw[ae h,ae h',pF]
theorem U1(v i:Nat)(xs:List Rat)(sum:Rat):pF v i [] xs sum=(sum,true):=by cases xs<;>rfl
def iY(l:j8)(v:Nat)(aF:List Rat):Rat×Bool:=
 if(pF v 0 l.aW aF (whole l.bj)).2 then(if(ny 1 (l.aW.getD v 0)).2 then dt (pF v 0 l.aW aF (whole l.bj)).1 (ny 1 (l.aW.getD v 0)).1 else((pF v 0 l.aW aF (whole l.bj)).1,false)) else((pF v 0 l.aW aF (whole l.bj)).1,false)
theorem VK{l:j8}{v:Nat}{aF:List Rat}:pd l v aF=Dv (iY l v aF):=by unfold pd iY;rw[GF];generalize pF v 0 l.aW aF (whole l.bj)=r;generalize ny 1 (l.aW.getD v 0)=b;obtain⟨r,o⟩:=r;obtain⟨b,p⟩:=b;cases o<;>cases p<;>simp[Dv]
def qE(v:Nat):List (dK×dK)→List dK→List dK×Bool
 | [],out=>(out,true)
 | (a,b)::ps,out=>if xC a b v=true∧out.length<200 then qE v ps (out++[D5 a b v]) else(out,false)
def Na{α:Type}(x:α×Bool):Option α:=if x.2 then some x.1 else none
theorem ES{v:Nat}:∀{ps:List (dK×dK)}{out:List dK},oV v ps out=Na (qE v ps out)
 | [],out=>rfl
 | (a,b)::ps,out=>by rw[oV,qE];split;exact ES;rfl
def tw(aw:List dK)(v:Nat):List dK×Bool:=qE v (rS aw aw v) (aw.filter fun r=>decide (cq r v=0))
theorem R1{aw:List dK}{v:Nat}:jo aw v=Na (tw aw v):=ES
theorem yQ{aw:List dK}{v:Nat}(h:(tw aw v).2=false):jo aw v=none:=by rw[R1,Na,h];rfl
theorem zo{aw:List dK}{v:Nat}(h:(tw aw v).2=true):jo aw v=some (tw aw v).1:=by rw[R1,Na,h];rfl
def j7(v:Nat)(aF:List Rat):List dK→Option Rat→Option Rat→(Option Rat×Option Rat)×Bool
 | [],lo,hi=>((lo,hi),true)
 | r::rs,lo,hi=>if cq r v=0 then j7 v aF rs lo hi else
   if(iY r.lG v aF).2 then
    (if 0<cq r v then j7 v aF rs lo (if lower (iY r.lG v aF).1 hi then some (iY r.lG v aF).1 else hi) else j7 v aF rs (if upper (iY r.lG v aF).1 lo then some (iY r.lG v aF).1 else lo) hi)
   else((lo,hi),false)
theorem D0{v:Nat}{aF:List Rat}:∀{aw:List dK}{lo hi:Option Rat},qW v aF aw lo hi=Na (j7 v aF aw lo hi)
 | [],lo,hi=>rfl
 | r::rs,lo,hi=>by rw[qW,j7,VK,Dv];split;exact D0;generalize iY r.lG v aF=b;obtain⟨b,ok⟩:=b;cases ok;rfl;simp only[if_true];split;exact D0;exact D0
theorem Vb{v i:Nat}{aF:List Rat}{aw:List dK}(h:i<aw.length)(lo hi:Option Rat):j7 v aF (aw.drop i) lo hi=if cq aw[i] v=0 then j7 v aF (aw.drop (i+1)) lo hi else
 if(iY aw[i].lG v aF).2 then
  (if 0<cq aw[i] v then j7 v aF (aw.drop (i+1)) lo (if lower (iY aw[i].lG v aF).1 hi then some (iY aw[i].lG v aF).1 else hi) else j7 v aF (aw.drop (i+1)) (if upper (iY aw[i].lG v aF).1 lo then some (iY aw[i].lG v aF).1 else lo) hi)
 else((lo,hi),false):=by
 rw[ae h,j7]
def zF:List (List dK)→Nat→List Rat→List Rat×Bool
 | [],_,aF=>(aF,true)
 | aw::st,v,aF=>
   if(j7 v aF aw none none).2 then
    (if(mN (j7 v aF aw none none).1.1 (j7 v aF aw none none).1.2).2 then zF st (v+1) (aF.set v (mN (j7 v aF aw none none).1.1 (j7 v aF aw none none).1.2).1)
     else(aF.set v (mN (j7 v aF aw none none).1.1 (j7 v aF aw none none).1.2).1,false))
   else(aF,false)
theorem SB:∀{st:List (List dK)}{v:Nat}{aF:List Rat},oq st v aF=Na (zF st v aF)
 | [],v,aF=>rfl
 | aw::st,v,aF=>by rw[oq,zF,valueOf,D0,Na];generalize j7 v aF aw none none=b;obtain⟨⟨lo,hi⟩,ok⟩:=b;cases ok;rfl;simp only[if_true,Dv];generalize mN lo hi=c;obtain⟨c,ok⟩:=c;cases ok;rfl;exact SB
theorem Vn{st:List (List dK)}{i:Nat}(h:i<st.length)(aF:List Rat):zF (st.drop i) i aF =
 if(j7 i aF st[i] none none).2 then
  (if(mN (j7 i aF st[i] none none).1.1 (j7 i aF st[i] none none).1.2).2 then zF (st.drop (i+1)) (i+1) (aF.set i (mN (j7 i aF st[i] none none).1.1 (j7 i aF st[i] none none).1.2).1)
   else(aF.set i (mN (j7 i aF st[i] none none).1.1 (j7 i aF st[i] none none).1.2).1,false))
 else(aF,false):=by
 rw[ae h,zF]
def Uu(aw:List dK):List Int:=match aw.find? fun r=>lM r.lG with|some r=>r.ie|none=>[]
theorem XT(v:Nat):jo [] v=some []:=rfl
def tQ(l:List (List dK)):List (List D):=l.map fun x=>[.eC (fm x)]
theorem UH(l:List (List dK)):(tQ l).length=l.length:=by simp[tQ]
theorem rN{l:List (List dK)}{i:Nat}(h:i<l.length):row (tQ l) i=[.eC (fm l[i])]:=by simp[tQ,row,ct,af h]
theorem yZ{l:List (List dK)}{i:Nat}{x:List dK}(h:i<l.length):(tQ l).set i (wm (row (tQ l) i) 0 [.eC (fm x)])=tQ (l.set i x):=by rw[rN h];simp[tQ,lp,wm]
attribute [go_sem] UH rN
def jv(al:List ax):Prop:=∀t∈al,∀k∈t.ar,k∈al
theorem bT{al:List ax}{t:ax}(h:t∈al):aM al t<al.length:=qf h
theorem cX{al:List ax}{t:ax}(h:t∈al):b8 al t=(aM al t:Int):=by have:=dE.2 h;unfold aM;omega
theorem Ik{al:List ax}{c:List Nat}{xs ys:List ax}{i:Nat}(h:i<xs.length)(h':i<ys.length):nQ al c (xs.drop i) (ys.drop i)=(NX al c xs[i] ys[i]&&nQ al c (xs.drop (i+1)) (ys.drop (i+1))):=by rw[ae h,ae h',nQ]
theorem Ka{al:List ax}{c:List Nat}:nQ al c [] []=true:=rfl
theorem Dn{al:List ax}{c:List Nat}:∀{xs ys:List ax},xs.length≠ys.length→nQ al c xs ys=false
 | [],[],h=>(h rfl).elim
 | [],_::_,_=>rfl
 | _::_,[],_=>rfl
 | x::xs,y::ys,h=>by rw[nQ,Dn (by simpa using h),Bool.and_false]
def iJ(c:List Nat)(from_ to i:Nat):List Nat:=((c.take i).map fun k=>if k=from_ then to else k)++c.drop i
theorem vx(c:List Nat)(f t i:Nat):(iJ c f t i).length=c.length:=by simp[iJ];omega
theorem vk{c:List Nat}{f t i:Nat}(h:i<c.length)(h':i<(iJ c f t i).length):(iJ c f t i)[i]=c[i]:=by
 have:(iJ c f t i)[i]?=some c[i]:=by unfold iJ;rw[bO (by simp;omega)];simp only[cW,bl,Nat.min_eq_left (Nat.le_of_lt h),mo,List.getElem?_drop,Nat.add_zero];exact af h
 exact(bV.1 this).2
theorem tv{c:List Nat}{f t i:Nat}(h:i<c.length):iJ c f t (i+1)=(iJ c f t i).set i (if c[i]=f then t else c[i]):=by
 have e:((c.take i).map fun k=>if k=f then t else k).length=i:=by rw[cW,bl,Nat.min_eq_left (Nat.le_of_lt h)]
 unfold iJ;rw[List.set_append_right _ _ oM,e,mo,ae h,List.set_cons_zero,bz,af h,dM,bC];rfl
theorem wA{c:List Nat}{f t i:Nat}(h:i<c.length)(lj:c[i]≠f):iJ c f t (i+1)=iJ c f t i:=by
 rw[tv h,if_neg lj]
 conv=>rhs;rw[←List.set_getElem_self (as:=iJ c f t i) (i:=i) (h:=by rw[vx];exact h)]
 rw[vk h]
theorem LU{c:List Nat}{a b i:Nat}(h:c.length≤i):iJ c (max (cl c a) (cl c b)) (min (cl c a) (cl c b)) i=iw c a b:=by unfold iJ iw;rw[List.take_of_length_le h,List.drop_of_length_le h,bE]
theorem xG{l:List Nat}{i n:Nat}(h:i<l.length):(db l).set i (wm (row (db l) i) 0 [.val (.int .i64 (n:Int))])=db (l.set i n):=by rw[se h,←Ze];rfl
def te(e l n:Nat):List (Nat×Nat):=(fk e (l-e)).map (fun e=>(e,l))++lC (l+1) n
theorem AF{l n:Nat}(h:l<n):lC l n=te 0 l n:=Mf h
theorem CY{e l n:Nat}(h:e<l):te e l n=(e,l)::te (e+1) l n:=by unfold te;rw[qz h];rfl
theorem Fw{e l n:Nat}(h:l≤e):te e l n=lC (l+1) n:=by unfold te;rw[rX h];rfl
def zk(al:List ax)(ao:List Step)(tq:Nat→Nat→Nat→lH)(i:Nat):lH:=
 if(jC ao i).given<0 then .mk 5 0 (.mk (al.getD (vA ao i) aQ).name []) (((al.getD (vA ao i) aQ).ar.zip (al.getD (vB ao i) aQ).ar).map fun p=>tq i (aM al p.1) (aM al p.2)) else .mk 2 (jC ao i).given aQ []
theorem JR(al:List ax)(ao:List Step)(tq:Nat→Nat→Nat→lH)(e:Edge):mP al ao tq e=if e.back then .mk 3 0 aQ [zk al ao tq e.step] else zk al ao tq e.step:=rfl
theorem vp{ao:List Step}{i:Nat}(h:i<ao.length):jC ao i=ao[i]:=by rw[jC,aB,af h];rfl
theorem Ba{c:List Nat}{a b m:Nat}(h:∀x∈c,x≤m):∀x∈iw c a b,x≤m:=by
 intro x hx;simp only[iw,bN] at hx;obtain⟨y,hy,rfl⟩:=hx;have hle:∀i,cl c i≤m:=fun i=>by rcases cz i c.length with h1|h1;exact h _ (DU h1);rw[aeH h1];exact bo _
 have:=hle a;have:=hle b;have:=h y hy;split<;>omega
theorem rU{m:Nat}:∀{c:List Nat},(∀x∈c,x≤m)→c.sum≤c.length*m
 | [],_=>by simp
 | x::c,h=>by have h1:=h x (by simp);have h2:=rU (c:=c) fun y hy=>h y (bw _ hy);simp only[List.sum_cons,aY,Nat.add_mul];omega
theorem Gp{al:List ax}{c:List Nat}:∀{xs ys:List ax},nQ al c xs ys=true→xs.length=ys.length∧∀(i:Nat)(h:i<xs.length)(h':i<ys.length),cl c (aM al xs[i])=cl c (aM al ys[i])
 | [],[],_=>⟨rfl,fun i h=>by simp at h⟩
 | [],_::_,h=>by cases h
 | _::_,[],h=>by cases h
 | x::xs,y::ys,h=>by
  simp only[nQ,ah] at h;obtain⟨i1,i2⟩:=Gp h.2;refine⟨by simp[i1],fun i h1 h2=>?_⟩;cases i with
  | zero=>simpa[NX] using h.1
  | succ i=>exact i2 i (by simpa using h1) (by simpa using h2)
theorem SK{al:List ax}{c:List Nat}{a b:Nat}(h:alike al c a b=true):0<(al.getD a aQ).ar.length∧(al.getD a aQ).name=(al.getD b aQ).name∧(al.getD a aQ).ar.length=(al.getD b aQ).ar.length ∧
 ∀(i:Nat)(h:i<(al.getD a aQ).ar.length)(h':i<(al.getD b aQ).ar.length),cl c (aM al (al.getD a aQ).ar[i])=cl c (aM al (al.getD b aQ).ar[i]):=by
 simp only[alike,ah,decide_eq_true_eq] at h
 obtain⟨i1,i2⟩:=Gp h.2.2
 exact⟨h.1,h.2.1,i1,i2⟩
theorem SR{α β γ:Type}{f:α×β→γ}{xs:List α}{ys:List β}{i:Nat}(h:i<xs.length)(h':i<ys.length):((xs.zip ys).take (i+1)).map f=((xs.zip ys).take i).map f++[f (xs[i],ys[i])]:=by rw[bz,af (by simp;omega),dM];simp
theorem YB{rec_:Nat→List Nat→Option (List Edge)}{ao:List Step}{v n i:Nat}{fl:List Nat}(h:i<n):yp rec_ ao v fl (fk i (n-i))=match sg ao v i with
 | none=>yp rec_ ao v fl (fk (i+1) (n-(i+1)))
 | some e=>if jQ ao e∈fl then yp rec_ ao v fl (fk (i+1) (n-(i+1))) else match rec_ (jQ ao e) (fl++[jQ ao e]) with
   | none=>yp rec_ ao v fl (fk (i+1) (n-(i+1)))
   | some r=>some (e::r):=by
 rw[qz h,yp]
 all_goals rfl
def Xk(one:Edge→lH)(t:ax):List Edge→lH
 | []=>.mk 1 0 t []
 | e::es=>qP one (one e) es
theorem XG(al:List ax)(ao:List Step)(f n a b:Nat):nk al ao (f+1) n a b=Xk (mP al ao (nk al ao f)) (al.getD a aQ) (n7 al.length ao n a b):=by rw[nk];cases n7 al.length ao n a b<;>rfl
theorem AB{one:Edge→lH}{t:ax}{way:List Edge}(h:0<way.length):Xk one t way=qP one (one way[0]) (way.drop 1):=by
 cases way with
 | nil=>simp at h
 | cons e es=>rfl
theorem Ee{rec_:Nat→List Nat→Option (List Edge)}{ao:List Step}{v:Nat}{fl:List Nat}:∀{l:List Nat}{r:List Edge},yp rec_ ao v fl l=some r→∃e w s r',r=e::r'∧rec_ w s=some r'
 | [],r,h=>by cases h
 | i::l,r,h=>by rw[yp] at h;split at h;exact Ee h;split at h;exact Ee h;split at h;exact Ee h;rename_i hr;simp only[Option.some.injEq] at h;exact⟨_,_,_,_,h.symm,hr⟩
theorem EY{ao:List Step}{n to:Nat}:∀{f v:Nat}{fl:List Nat}{r:List Edge},xy ao n to f v fl=some r→r.length≤f
 | 0,_,_,_,h=>by cases h
 | f+1,v,fl,r,h=>by rw[xy] at h;split at h;simp only[Option.some.injEq] at h;rw[←h];exact bo _;obtain⟨e,w,s,r',rfl,h2⟩:=Ee h;have:=EY h2;simp only[aY];omega
end Go.Mod
