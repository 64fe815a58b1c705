/-
  What the deciding functions of chapters 3, 5 and 8 compute, in plain Lean: elimination, closures, explanations, decisions. No program is walked here.
-/
import Derived.Test.YtnhdminpjihbnaaGreatKAE
set_option linter.unusedVariables false
set_option linter.unusedSimpArgs false
open Bool renaming and_eq_true→ab,false_eq_true→aw
open Classical renaming em→aa
open Int renaming toNat_natCast→aS,gcd→dK,natCast_nonneg→ki,tdiv_eq_ediv_of_nonneg→l9
open List renaming getElem?_eq_getElem→ae,getElem_mem→ah,drop_eq_getElem_cons→ai,mem_cons→ax,getD_eq_getElem?_getD→aE,map_cons→aJ,mem_append→aM,length_take→a6,mem_cons_of_mem→bf,all_eq_true→bh,append_assoc→bm,take_add_one→bn,mem_map→bq,getElem?_append_left→br,cons_append→bu,not_mem_nil→bB,getElem?_append_right→bG,getElem?_eq_none→bL,getElem?_eq_some_iff→bP,nil_append→bQ,append_nil→bV,getD→b9,length_map→cd,range→cK,map_nil→cL,map_append→dA,mem_append_left→dH,nodup_append→gh,nodup_cons→gz,mem_flatMap→gF,mem_of_find?_eq_some→im,range'→iC,foldl_cons→iW,getElem?_cons_zero→jh,mem_range→jJ,length_range→kU,foldl_append→kW,map_set→mI
open Nat renaming le_refl→aH,zero_le→bT,lt_or_ge→b7,lt_trichotomy→fg,sub_self→jI
namespace Go.Mod
open Go.Eng
set_option maxRecDepth 100000
def eZ(l:List Nat):List (List D):=l.map fun n:Nat=>[.val (.int .i64 (n:Int))]
theorem ZC(l:List Nat):(eZ l).length=l.length:=by simp[eZ]
theorem vn{l:List Nat}{i:Nat}(h:i<l.length):row (eZ l) i=[.val (.int .i64 (l[i]:Int))]:=by simp[eZ,row,b9,ae h]
theorem xX(a b:List Nat):eZ a++eZ b=eZ (a++b):=by simp[eZ]
theorem ZO{l:List Nat}{i n:Nat}:(eZ l).set i [.val (.int .i64 (n:Int))]=eZ (l.set i n):=by simp[eZ,mI]
attribute [go_sem] ZC vn
theorem tr{i n:Nat}(h:i<n):iC i (n-i)=i::iC (i+1) (n-(i+1)):=by obtain⟨k,rfl⟩:∃k,n=i+1+k:=⟨n-(i+1),oM⟩;have e1:i+1+k-i=k+1:=oM;have e2:i+1+k-(i+1)=k:=oM;rw[e1,e2,List.range'_succ]
theorem wc{i n:Nat}(h:n≤i):iC i (n-i)=[]:=by have e1:n-i=0:=oM;rw[e1];rfl
theorem Yc(n:Int):(whole n).N=n:=rfl
theorem afp(n:Int):(whole n).D=1:=rfl
attribute [go_sem] Yc afp
structure gD where
 wE:mM
 oI:List Int
 deriving DecidableEq
def cU(r:gD):List D:=[.eP (bj r.wE.bw),.val (.int .i64 r.wE.bJ),.val (.bool r.wE.cz),.eP (bj r.oI)]
def iZ(l:List gD):List (List D):=l.map cU
theorem aak(l:List gD):(iZ l).length=l.length:=by simp[iZ]
theorem aaD{l:List gD}{i:Nat}(h:i<l.length):row (iZ l) i=cU l[i]:=by simp[iZ,row,b9,ae h]
theorem Ps(a b:List gD):iZ a++iZ b=iZ (a++b):=by simp[iZ]
theorem GM:iZ []=[]:=rfl
theorem Mh(n:gD)(l:List gD):iZ (n::l)=cU n::iZ l:=rfl
attribute [go_sem] aak aaD GM cU
def eU(r:gD)(v:Nat):Int:=r.wE.bw.getD v 0
def zS(n i:Nat):List Int:=(List.replicate n 0).set i 1
def dy(ls:List mM):List gD:=(cK ls.length).map fun i=>⟨ls.getD i uZ,zS ls.length i⟩
def Gk(a b:gD)(v:Nat):Int:=(dK (eU a v) (-(eU b v)):Int)
def AL(a b:gD)(v:Nat):Int:=(eU a v).tdiv (Gk a b v)
def AB(a b:gD)(v:Nat):Int:=(-(eU b v)).tdiv (Gk a b v)
def AW(a b:gD)(v:Nat):List Int:=jW (AB a b v) (AL a b v) a.oI b.oI
def Tg(a b:gD)(v:Nat):gD:=⟨(jP a.wE (AB a b v) b.wE (AL a b v)).1,AW a b v⟩
def HE(a b:gD)(v:Nat):Bool:=(jP a.wE (AB a b v) b.wE (AL a b v)).2&&(AW a b v).all fun n=>decide (n≤1000000)
def zK(a:gD)(v:Nat)(aK:List gD):List (gD×gD):=aK.filterMap fun b=>if 0<eU a v∧eU b v<0 then some (a,b) else none
def zA(all aK:List gD)(v:Nat):List (gD×gD):=aK.flatMap fun a=>zK a v all
def qZ(v:Nat):List (gD×gD)→List gD→Option (List gD)
 | [],out=>some out
 | (a,b)::ps,out=>if HE a b v=true∧out.length<200 then qZ v ps (out++[Tg a b v]) else none
def oz(aK:List gD)(v:Nat):Option (List gD):=qZ v (zA aK aK v) (aK.filter fun r=>decide (eU r v=0))
def xy(v:Nat):Nat→List Int→List Rat→Rat→Option Rat
 | i,c::cs,x::xs,sum=>if i=v then xy v (i+1) cs xs sum else if(plus sum (-c) x).2 then xy v (i+1) cs xs (plus sum (-c) x).1 else none
 | _,_,_,sum=>some sum
def XC(x:Rat×Bool):Option Rat:=if x.2 then some x.1 else none
def rD(l:mM)(v:Nat)(aV:List Rat):Option Rat:=
 match xy v 0 l.bw aV (whole l.bJ) with
 | none=>none
 | some sum=>if(BD 1 (l.bw.getD v 0)).2 then XC (nz sum (BD 1 (l.bw.getD v 0)).1) else none
def lower(x:Rat):Option Rat→Bool
 | none=>true
 | some h=>gW x h
def upper(x:Rat):Option Rat→Bool
 | none=>true
 | some l=>gW l x
def ui(v:Nat)(aV:List Rat):List gD→Option Rat→Option Rat→Option (Option Rat×Option Rat)
 | [],lo,hi=>some (lo,hi)
 | r::rs,lo,hi=>if eU r v=0 then ui v aV rs lo hi else match rD r.wE v aV with
   | none=>none
   | some b=>if 0<eU r v then ui v aV rs lo (if lower b hi then some b else hi) else ui v aV rs (if upper b lo then some b else lo) hi
def E0:Option Rat→Option Rat→Rat×Bool
 | some l,some h=>Bu l h
 | none,some h=>ml h (whole (-1))
 | some l,none=>ml l (whole 1)
 | none,none=>(whole 0,true)
def valueOf(aK:List gD)(v:Nat)(aV:List Rat):Option Rat:=
 match ui v aV aK none none with
 | none=>none
 | some e=>XC (E0 e.1 e.2)
def pH:List (List gD)→Nat→List Rat→Option (List Rat)
 | [],_,aV=>some aV
 | aK::st,v,aV=>match valueOf aK v aV with
   | none=>none
   | some x=>pH st (v+1) (aV.set v x)
def re:List Int→List Rat→Rat→Option Rat
 | c::cs,x::xs,sum=>if(plus sum c x).2 then re cs xs (plus sum c x).1 else none
 | _,_,sum=>some sum
def C0(aV:List Rat):Bool:=decide (aV.length=4)&&aV.all eC
def zW(l:mM)(aV:List Rat):Option Bool:=if jz l&&C0 aV then(re l.bw aV (whole 0)).map fun x=>below x l.bJ l.cz else none
def rG(au:List mM)(aV:List Rat):Bool:=oa au&&(C0 aV&&au.all fun l=>decide (zW l aV=some true))
def Bc:List Rat:=[whole 0,whole 0,whole 0,whole 0]
structure Far where
 aV:List Rat
 bt:List Int
 code:Int
def mO(au:List mM)(s0 s1 s2 s3 aK:List gD):Far:=
 match aK.find? fun r=>tN r.wE with
 | some r=>if Dd au r.oI then⟨[],r.oI,1⟩ else⟨[],[],2⟩
 | none=>match pH [s0,s1,s2,s3] 0 Bc with
   | none=>⟨[],[],2⟩
   | some aV=>if rG au aV then⟨aV,[],0⟩ else⟨[],[],2⟩
def dX(au:List mM):Far:=
 if oa au then match oz (dy au) 3 with
  | none=>⟨[],[],2⟩
  | some r2=>match oz r2 2 with
    | none=>⟨[],[],2⟩
    | some r1=>match oz r1 1 with
      | none=>⟨[],[],2⟩
      | some r0=>match oz r0 0 with
        | none=>⟨[],[],2⟩
        | some aK=>mO au r0 r1 r2 (dy au) aK
 else⟨[],[],3⟩
def a8(aj:List az)(t:az):Nat:=(dN aj t).toNat
def cl(class_:List Nat)(i:Nat):Nat:=class_.getD i 0
def km(class_:List Nat)(a b:Nat):List Nat:=class_.map fun k=>if k=max (cl class_ a) (cl class_ b) then min (cl class_ a) (cl class_ b) else k
def SI(aj:List az)(class_:List Nat)(x y:az):Bool:=decide (cl class_ (a8 aj x)=cl class_ (a8 aj y))
def oV(aj:List az)(class_:List Nat):List az→List az→Bool
 | [],[]=>true
 | x::xs,y::ys=>SI aj class_ x y&&oV aj class_ xs ys
 | _,_=>false
def alike(aj:List az)(class_:List Nat)(a b:Nat):Bool:=
 decide (0<(aj.getD a aX).ar.length)&&(decide ((aj.getD a aX).name=(aj.getD b aX).name)&&oV aj class_ (aj.getD a aX).ar (aj.getD b aX).ar)
def vp(aj:List az)(class_:List Nat)(early late:Nat):Bool:=decide (cl class_ early≠cl class_ late)&&alike aj class_ early late
def mu(from_ n:Nat):List (Nat×Nat):=(iC from_ (n-from_)).flatMap fun l=>(iC 0 l).map fun e=>(e,l)
def mE(aj:List az)(class_:List Nat):Option (Nat×Nat):=(mu 0 aj.length).find? fun p=>vp aj class_ p.1 p.2
def mw(aj:List az):Nat→List lH→List Nat→List Step→List Nat×List Step
 | _,[],class_,ao=>(class_,ao)
 | n,e::es,class_,ao=>
   if cl class_ (a8 aj e.A)=cl class_ (a8 aj e.B) then mw aj (n+1) es class_ ao
   else mw aj (n+1) es (km class_ (a8 aj e.A) (a8 aj e.B)) (ao++[⟨a8 aj e.A,a8 aj e.B,n⟩])
def nU(aj:List az):Nat→List Nat→List Step→List Nat×List Step
 | 0,class_,ao=>(class_,ao)
 | f+1,class_,ao=>match mE aj class_ with
   | none=>(class_,ao)
   | some p=>nU aj f (km class_ p.1 p.2) (ao++[⟨p.1,p.2,-1⟩])
def given(aj:List az)(dx:List lH):List Nat×List Step:=mw aj 0 dx (cK aj.length) []
def closed(aj:List az)(dx:List lH):List Nat×List Step:=nU aj (given aj dx).1.sum (given aj dx).1 (given aj dx).2
def bl(n:Nat)(ao:List Step)(k:Nat):List Nat:=(ao.take k).foldl (fun c s=>km c s.A.toNat s.B.toNat) (cK n)
structure Edge where
 step:Nat
 back:Bool
 deriving DecidableEq
def jQ(ao:List Step)(k:Nat):Step:=ao.getD k ⟨0,0,0⟩
def oK(n:Nat)(ao:List Step):Nat→Nat→Nat→List Edge
 | 0,_,_=>[]
 | k+1,a,b=>
   let c:=bl n ao k
   if cl c a=cl c b then oK n ao k a b
   else if cl c a=cl c (jQ ao k).A.toNat then oK n ao k a (jQ ao k).A.toNat++⟨k,false⟩::oK n ao k (jQ ao k).B.toNat b
   else oK n ao k a (jQ ao k).B.toNat++⟨k,true⟩::oK n ao k (jQ ao k).A.toNat b
def ri(aj:List az)(ao:List Step)(xU:Nat→Nat→Nat→o8)(e:Edge):o8:=
 let s:=jQ ao e.step
 let w:o8:=if s.given<0 then .mk 5 0 (.mk (aj.getD s.A.toNat aX).name []) (((aj.getD s.A.toNat aX).ar.zip (aj.getD s.B.toNat aX).ar).map fun p=>xU e.step (a8 aj p.1) (a8 aj p.2)) else .mk 2 s.given aX []
 if e.back then .mk 3 0 aX [w] else w
def xw(one:Edge→o8):o8→List Edge→o8
 | w,[]=>w
 | w,e::es=>xw one (.mk 4 0 aX [w,one e]) es
def uc(aj:List az)(ao:List Step):Nat→Nat→Nat→Nat→o8
 | 0,_,_,_=>E1
 | f+1,n,a,b=>match oK aj.length ao n a b with
   | []=>.mk 1 0 (aj.getD a aX) []
   | e::es=>xw (ri aj ao (uc aj ao f)) (ri aj ao (uc aj ao f) e) es
def o9(aj:List az)(ao:List Step)(a b:az):o8:=uc aj ao (ao.length+1) ao.length (a8 aj a) (a8 aj b)
def iJ(an:List az)(out:List Nat)(e:lH):List Nat:=
 if dN an e.A<0∨dN an e.B<0 then out else out.map fun k=>if k=cl out (a8 an e.A) then cl out (a8 an e.B) else k
def nk(an:List az)(dx:List lH):List Nat:=dx.foldl (iJ an) (cK an.length)
def iH(an:List az)(af:List cC)(i k:Nat):Bool:=decide (cl (nk an (cG af)) i=cl (nk an (cG af)) k)
def jr(an:List az)(af:List cC)(i k:Nat):Bool:=af.any fun l=>!l.no&&decide (l.aY=(gC (an.getD i aX) (an.getD k aX)).aY)
def fH(from_ n:Nat):List (Nat×Nat):=(iC from_ (n-from_)).flatMap fun i=>(iC (i+1) (n-(i+1))).map fun k=>(i,k)
def eW(n:Nat)(p:Nat→Nat→Bool):Option (Nat×Nat):=(fH 0 n).find? fun q=>p q.1 q.2
def lV(aI:List az)(class_:List Nat)(a b:az):Bool:=decide (cl class_ (a8 aI a)=cl class_ (a8 aI b))
def qq(aI:List az)(class_:List Nat)(l:cC):Bool:=l.no&&(decide (l.aY.kind=1)&&lV aI class_ l.aY.A l.aY.B)
def qj{α:Type}(p:α→Bool)(l:List α):Option Nat:=(cK l.length).find? fun i=>match l[i]? with|none=>false|some x=>p x
def qc(aI an:List az)(class_:List Nat)(aV:List Rat)(t:az):Rat:=if dN an t<0 then whole (cl class_ (a8 aI t)) else aV.getD (a8 an t) (whole 0)
def nb(aI an:List az)(class_:List Nat)(aV:List Rat)(t:az):Row:=⟨t.name,t.ar.map (qc aI an class_ aV),qc aI an class_ aV t⟩
def putRow(aK:List Row)(r:Row):List Row:=
 let lo:=aK.takeWhile fun x=>decide (gP x r<0)
 let hi:=aK.dropWhile fun x=>decide (gP x r<0)
 match hi with
 | []=>lo++[r]
 | x::xs=>if gP x r=0 then aK else lo++r::x::xs
def mv(aI an:List az)(class_:List Nat)(aV:List Rat):List Row:=aI.foldl (fun aK t=>putRow aK (nb aI an class_ aV t)) []
def gK(s:eV)(m:dZ)(af:List cC):Bool:=ly s m&&af.all fun l=>decide (gj s m l=some true)
structure HO where
 model:dZ
 case:fL
 code:Int
def Bk:fL:=.mk 0 0 E1 [] aX aX []
def sw:dZ:=⟨[]⟩
def DM:HO:=⟨sw,Bk,2⟩
def PK(w:o8)(r:HO):HO:=if r.code=1 then⟨sw,.mk 3 0 w [] aX aX [r.case],1⟩ else⟨r.model,Bk,r.code⟩
def yi(run:List cC→HO)(a b:az):List (List cC)→List fL→HO
 | [],out=>⟨sw,.mk 4 0 E1 [] a b out,1⟩
 | l::ls,out=>if(run l).code=1 then yi run a b ls (out++[(run l).case]) else⟨(run l).model,Bk,(run l).code⟩
def nO(s:eV)(aI an:List az):Nat→List cC→HO
 | 0,_=>DM
 | f+1,af=>
   let dx:=cG af
   let c:=closed aI dx
   let OU:=dX (iL an af)
   if 12<dx.length then DM else
   match qj (qq aI c.1) af with
   | some n=>⟨sw,.mk 1 n (o9 aI c.2 (af.getD n Hc).aY.A (af.getD n Hc).aY.B) [] aX aX [],1⟩
   | none=>
     if OU.code=1 then⟨sw,.mk 2 0 E1 OU.bt aX aX [],1⟩ else
     if OU.code≠0 then DM else
     match eW an.length (fun i k=>!iH an af i k&&lV aI c.1 (an.getD i aX) (an.getD k aX)) with
     | some (i,k)=>PK (o9 aI c.2 (an.getD i aX) (an.getD k aX)) (nO s aI an f (af++[kQ (an.getD i aX) (an.getD k aX)]))
     | none=>match eW an.length (fun i k=>!iH an af i k&&(!jr an af i k&& !jr an af k i)) with
       | some (i,k)=>yi (nO s aI an f) (an.getD i aX) (an.getD k aX) ((lr (an.getD i aX) (an.getD k aX)).map fun l=>af++[l]) []
       | none=>if gK s ⟨mv aI an c.1 OU.aV⟩ af then⟨⟨mv aI an c.1 OU.aV⟩,Bk,0⟩ else DM
def gf(s:eV)(af:List cC):HO:=if gO s af then nO s (aQ af) (aO s af) 13 af else⟨sw,Bk,3⟩
theorem nN{c:List Nat}{i:Nat}(h:i<c.length):cl c i=c[i]:=by rw[cl,aE,ae h];rfl
theorem KY{c:List Nat}{i:Nat}(h:i<c.length):cl c i∈c:=by rw[nN h];exact ah h
theorem ag3{c:List Nat}{i:Nat}(h:c.length≤i):cl c i=0:=by rw[cl,aE,bL h];rfl
theorem j8(c:List Nat)(a b:Nat):(km c a b).length=c.length:=by simp[km]
theorem Ec{c:List Nat}{f:Nat→Nat}{i:Nat}(h:i<c.length):cl (c.map f) i=f (cl c i):=by rw[nN (by simpa using h),nN h,List.getElem_map]
theorem Bd{c:List Nat}{a b i:Nat}(h:i<c.length):cl (km c a b) i=if cl c i=max (cl c a) (cl c b) then min (cl c a) (cl c b) else cl c i:=Ec h
theorem Pw{c:List Nat}{a b i k:Nat}(hi:i<c.length)(hk:k<c.length):cl (km c a b) i=cl (km c a b) k↔(cl c i=cl c k∨(cl c i=cl c a∧cl c k=cl c b)∨(cl c i=cl c b∧cl c k=cl c a)):=by rw[Bd hi,Bd hk];split<;>split<;>omega
theorem aey{f:Nat→Nat}(hf:∀x,f x≤x):∀l:List Nat,(l.map f).sum≤l.sum
 | []=>aH _
 | x::l=>by have:=aey hf l;have:=hf x;simp only[aJ,List.sum_cons];omega
theorem acm{f:Nat→Nat}(hf:∀x,f x≤x):∀{l:List Nat}{x:Nat},x∈l→f x<x→(l.map f).sum<l.sum
 | y::l,x,hx,h=>by simp only[aJ,List.sum_cons];have h1:=aey hf l;have h2:=hf y;rcases ax.1 hx with e|e;subst e;omega;have:=acm hf e h;omega
theorem PT{c:List Nat}{a b:Nat}(ha:a<c.length)(hb:b<c.length)(h:cl c a≠cl c b):(km c a b).sum<c.sum:=by refine acm (x:=max (cl c a) (cl c b)) (fun x=>?_) ?_ ?_;split<;>omega;rcases Nat.le_total (cl c a) (cl c b) with h1|h1;rw[Nat.max_eq_right h1];exact KY hb;rw[Nat.max_eq_left h1];exact KY ha;rw[if_pos rfl];omega
theorem C1{s n:Nat}{p:Nat×Nat}:p∈mu s n↔p.1<p.2∧s≤p.2∧p.2<n:=by obtain⟨e,l⟩:=p;simp only[mu,gF,bq,List.mem_range'_1,Prod.mk.injEq];constructor;rintro⟨l',h1,e',h2,rfl,rfl⟩;omega;rintro⟨h1,h2,h3⟩;exact⟨l,oM,e,oM,rfl,rfl⟩
theorem MD{l n:Nat}(h:l<n):mu l n=(iC 0 (l-0)).map (fun e=>(e,l))++mu (l+1) n:=by unfold mu;rw[tr h];rfl
theorem Oh{l n:Nat}(h:n≤l):mu l n=[]:=by unfold mu;rw[wc h];rfl
theorem xQ{aj:List az}{c:List Nat}{p:Nat×Nat}(h:mE aj c=some p):p.1<p.2∧p.2<aj.length∧cl c p.1≠cl c p.2∧alike aj c p.1 p.2=true:=by have h1:=List.find?_some h;have h2:=C1.1 (im h);simp only[vp,ab,decide_eq_true_eq] at h1;exact⟨h2.1,h2.2.2,h1.1,h1.2⟩
theorem ac5{x:Nat}:∀{l:List Nat},x∈l→x≤l.sum
 | y::l,h=>by simp only[List.sum_cons];rcases ax.1 h with e|e;omega;have:=ac5 e;omega
theorem Ez{aj:List az}{f:Nat}{c:List Nat}{ao:List Step}(h:mE aj c=none):nU aj f c ao=(c,ao):=by
 cases f with
 | zero=>rfl
 | succ f=>simp only[nU,h]
theorem E3{aj:List az}{f:Nat}{c:List Nat}{ao:List Step}{p:Nat×Nat}(hs:c.sum≤f)(hc:c.length=aj.length)(h:mE aj c=some p) :
 ∃f',f=f'+1∧nU aj f c ao=nU aj f' (km c p.1 p.2) (ao++[⟨p.1,p.2,-1⟩])∧(km c p.1 p.2).sum≤f':=by
 obtain⟨h1,h2,h3,h4⟩:=xQ h
 have hd:=PT (c:=c) (a:=p.1) (b:=p.2) oM oM h3
 obtain⟨f',rfl⟩:∃f',f=f'+1:=⟨f-1,oM⟩
 exact⟨f',rfl,by simp only[nU,h],oM⟩
structure Si(aj:List az)(dx:List lH)(c:List Nat)(s:Step):Prop where
 a0:0≤s.A
 a1:s.A.toNat<aj.length
 b0:0≤s.B
 b1:s.B.toNat<aj.length
 ne:cl c s.A.toNat≠cl c s.B.toNat
 how:(s.given = -1∧alike aj c s.A.toNat s.B.toNat=true)∨(∃n:Nat,s.given=n∧∃e,dx[n]?=some e∧s.A=a8 aj e.A∧s.B=a8 aj e.B)
def qu(aj:List az)(dx:List lH)(ao:List Step):Prop:=∀k s,ao[k]?=some s→Si aj dx (bl aj.length ao k) s
theorem xH{n k:Nat}{ao more:List Step}(h:k≤ao.length):bl n (ao++more) k=bl n ao k:=by rw[bl,bl,List.take_append_of_le_length h]
theorem kq(n:Nat)(ao:List Step)(k:Nat):(bl n ao k).length=n:=by
 unfold bl;have:∀(l:List Step)(c:List Nat),(l.foldl (fun c s=>km c s.A.toNat s.B.toNat) c).length=c.length:=by
  intro l;induction l with
  | nil=>intro c;rfl
  | cons s l ih=>intro c;rw[iW,ih,j8]
 rw[this,kU]
theorem vN{n k:Nat}{ao:List Step}{s:Step}(h:ao[k]?=some s):bl n ao (k+1)=km (bl n ao k) s.A.toNat s.B.toNat:=by obtain⟨hk,rfl⟩:=bP.1 h;rw[bl,bn,ae hk,kW];rfl
theorem RL{aj:List az}{dx:List lH}{ao:List Step}{s:Step}(h:qu aj dx ao)(hs:Si aj dx (bl aj.length ao ao.length) s):qu aj dx (ao++[s]):=by intro k t ht;rcases fg k ao.length with h1|h1|h1;rw[br h1] at ht;rw[xH oM];exact h k t ht;subst h1;rw[bG (aH _)] at ht;simp only[jI,jh,Option.some.injEq] at ht;rw[xH (aH _),←ht];exact hs;rw[bL (by simp;omega)] at ht;cases ht
theorem Mc{n:Nat}{ao:List Step}{s:Step}:bl n (ao++[s]) (ao++[s]).length=km (bl n ao ao.length) s.A.toNat s.B.toNat:=by rw[List.length_append,List.length_singleton,vN (s:=s) (by simp),xH (aH _)]
def Kept(aj:List az)(dx:List lH)(x:List Nat×List Step):Prop:=qu aj dx x.2∧x.1=bl aj.length x.2 x.2.length
theorem Um{aj:List az}{dx:List lH}{x:List Nat×List Step}(h:Kept aj dx x):x.1.length=aj.length:=by rw[h.2,kq]
theorem PY{aj:List az}{dx:List lH}{x:List Nat×List Step}{s:Step}(h:Kept aj dx x)(hs:Si aj dx x.1 s):Kept aj dx (km x.1 s.A.toNat s.B.toNat,x.2++[s]):=
 ⟨RL h.1 (h.2▸hs),by rw[Mc,←h.2]⟩
theorem yM{aj:List az}{all:List lH}(jY:∀e∈all,e.A∈aj∧e.B∈aj):∀(dx:List lH)(n:Nat)(c:List Nat)(ao:List Step),all.drop n=dx→Kept aj all (c,ao)→Kept aj all (mw aj n dx c ao)
 | [],_,_,_,_,h=>h
 | e::es,n,c,ao,hd,h=>by have hn:all[n]?=some e:=(by have:=congrArg (·[0]?) hd;simpa using this);have hd2:all.drop (n+1)=es:=(by have:=congrArg List.tail hd;simpa[List.tail_drop] using this);obtain⟨hA,hB⟩:=jY e (List.mem_of_getElem? hn);rw[mw];split;exact yM jY es (n+1) c ao hd2 h;rename_i nI;exact yM jY es (n+1) _ _ hd2 (PY (s:=⟨a8 aj e.A,a8 aj e.B,n⟩) h ⟨ki _,by rw[aS];exact zj hA,ki _,by rw[aS];exact zj hB,by simpa using nI,.inr ⟨n,rfl,e,hn,rfl,rfl⟩⟩)
theorem Ge{aj:List az}{all:List lH}:∀(f:Nat)(c:List Nat)(ao:List Step),Kept aj all (c,ao)→Kept aj all (nU aj f c ao)
 | 0,_,_,h=>h
 | f+1,c,ao,h=>by rw[nU];split;exact h;rename_i p hp;obtain⟨h1,h2,h3,h4⟩:=xQ hp;exact Ge f _ _ (PY (s:=⟨p.1,p.2,-1⟩) h ⟨ki _,by simp;omega,ki _,by simpa using h2,by simpa using h3,.inl ⟨rfl,by simpa using h4⟩⟩)
theorem Xv{aj:List az}{dx:List lH}(jY:∀e∈dx,e.A∈aj∧e.B∈aj):Kept aj dx (given aj dx):=
 yM jY dx 0 _ _ rfl ⟨fun k s h=>by simp at h,rfl⟩
theorem qF{aj:List az}{dx:List lH}(jY:∀e∈dx,e.A∈aj∧e.B∈aj):Kept aj dx (closed aj dx):=Ge _ _ _ (Xv jY)
theorem DY{aj:List az}{dx:List lH}{x:List Nat×List Step}(h:Kept aj dx x):∀k,k≤x.2.length→(bl aj.length x.2 k).sum+k≤(cK aj.length).sum:=by
 intro k;induction k with
 | zero=>intro _;exact Nat.le_of_eq (by simp[bl])
 | succ k ih=>intro hk;have hs:x.2[k]?=some x.2[k]:=ae oM;have h1:=ih oM;have h2:=h.1 k _ hs;have h3:=PT (c:=bl aj.length x.2 k) (by rw[kq];exact h2.a1) (by rw[kq];exact h2.b1) h2.ne;rw[vN hs];omega
def vA(ao:List Step)(k:Nat):Nat:=(jQ ao k).A.toNat
def vB(ao:List Step)(k:Nat):Nat:=(jQ ao k).B.toNat
def j9(ao:List Step)(e:Edge):Nat:=if e.back then vB ao e.step else vA ao e.step
def nH(ao:List Step)(e:Edge):Nat:=if e.back then vA ao e.step else vB ao e.step
def ve(ao:List Step):Nat→List Edge→Nat→Prop
 | a,[],b=>a=b
 | a,e::es,b=>j9 ao e=a∧ve ao (nH ao e) es b
def uh(k:Nat)(es:List Edge):Prop:=∀e∈es,e.step<k
def lh(ao:List Step)(a:Nat)(es:List Edge):List Nat:=a::es.map (nH ao)
theorem A9{ao:List Step}:∀{p q:List Edge}{a b:Nat},ve ao a (p++q) b↔∃m,ve ao a p m∧ve ao m q b
 | [],q,a,b=>by simp[ve]
 | e::p,q,a,b=>by simp only[bu,ve,A9 (p:=p)];constructor;rintro⟨h1,m,h2,h3⟩;exact⟨m,⟨h1,h2⟩,h3⟩;rintro⟨m,⟨h1,h2⟩,h3⟩;exact⟨h1,m,h2,h3⟩
theorem T8{ao:List Step}:∀{p:List Edge}{a b:Nat},ve ao a p b→b∈lh ao a p
 | [],a,b,h=>by simp[ve] at h;simp[lh,h]
 | e::p,a,b,h=>by have:=T8 h.2;simp only[lh,aJ,ax] at this⊢;exact .inr this
section
variable{aj:List az}{dx:List lH}{ao:List Step}(dL:qu aj dx ao)
include dL
theorem uQ{k:Nat}(h:k<ao.length):Si aj dx (bl aj.length ao k) (jQ ao k):=by have e:=ae h;have:=dL k _ e;rw[jQ,aE,e];exact this
theorem O8{k:Nat}(h:k<ao.length):vA ao k<aj.length:=(uQ dL h).a1
theorem O5{k:Nat}(h:k<ao.length):vB ao k<aj.length:=(uQ dL h).b1
omit dL in
theorem X3{k:Nat}(h:k<ao.length):bl aj.length ao (k+1)=km (bl aj.length ao k) (vA ao k) (vB ao k):=by rw[vN (ae h),vA,vB,jQ,aE,ae h];rfl
omit dL in
theorem Wo{k i j:Nat}(h:k<ao.length)(hi:i<aj.length)(hj:j<aj.length):cl (bl aj.length ao (k+1)) i=cl (bl aj.length ao (k+1)) j ↔
 (cl (bl aj.length ao k) i=cl (bl aj.length ao k) j∨(cl (bl aj.length ao k) i=cl (bl aj.length ao k) (vA ao k)∧cl (bl aj.length ao k) j=cl (bl aj.length ao k) (vB ao k))∨(cl (bl aj.length ao k) i=cl (bl aj.length ao k) (vB ao k)∧cl (bl aj.length ao k) j=cl (bl aj.length ao k) (vA ao k))):=by
 rw[X3 h]
 exact Pw (by rw[kq];exact hi) (by rw[kq];exact hj)
theorem Px:∀{k:Nat},k≤ao.length→∀{j:Nat},j<k→cl (bl aj.length ao k) (vA ao j)=cl (bl aj.length ao k) (vB ao j)
 | 0,_,j,h=>by omega
 | k+1,hk,j,h=>by rw[Wo oM (O8 dL oM) (O5 dL oM)];rcases b7 j k with h1|h1;exact .inl (Px oM h1);obtain rfl:j=k:=oM;exact .inr (.inl ⟨rfl,rfl⟩)
theorem JZ{e:Edge}(h:e.step<ao.length):nH ao e<aj.length:=by unfold nH;split;exact O8 dL h;exact O5 dL h
theorem Ht{k:Nat}(hk:k≤ao.length){e:Edge}(h:e.step<k):cl (bl aj.length ao k) (j9 ao e)=cl (bl aj.length ao k) (nH ao e):=by have:=Px dL hk h;unfold j9 nH;cases e.back;simpa using this;simpa using this.symm
theorem Ch{k:Nat}(hk:k≤ao.length):∀{es:List Edge}{a b:Nat},uh k es→ve ao a es b→cl (bl aj.length ao k) a=cl (bl aj.length ao k) b
 | [],a,b,_,h=>by simp only[ve] at h;rw[h]
 | e::es,a,b,hw,h=>by rw[←h.1,Ht dL hk (hw e (by simp))];exact Ch hk (fun x hx=>hw x (bf _ hx)) h.2
theorem Rr{k:Nat}(hk:k≤ao.length):∀{es:List Edge}{a b:Nat},uh k es→ve ao a es b→a<aj.length→b<aj.length
 | [],a,b,_,h,ha=>by simp only[ve] at h;omega
 | e::es,a,b,hw,h,ha=>Rr hk (fun x hx=>hw x (bf _ hx)) h.2 (JZ dL (by have:=hw e (by simp);omega))
theorem sq{k:Nat}(hk:k≤ao.length):∀{es:List Edge}{a b:Nat},uh k es→ve ao a es b→∀v∈lh ao a es,cl (bl aj.length ao k) v=cl (bl aj.length ao k) a
 | [],a,b,_,h,v,hv=>by simp[lh] at hv;rw[hv]
 | e::es,a,b,hw,h,v,hv=>by simp only[lh,aJ,ax] at hv;rcases hv with e1|hv;rw[e1];rw[sq hk (fun x hx=>hw x (bf _ hx)) h.2 v (by simpa[lh] using hv),←h.1];exact(Ht dL hk (hw e (by simp))).symm
theorem zi:∀{k:Nat},k≤ao.length→∀{es:List Edge}{a b:Nat},a<aj.length→uh k es→ve ao a es b→(lh ao a es).Nodup→es=oK aj.length ao k a b
 | 0,_,es,a,b,_,hw,h,_=>by
  cases es with
  | nil=>rfl
  | cons e es=>exact absurd (hw e (by simp)) oM
 | k+1,hk,es,a,b,ha,hw,h,hn=>by
  have hk':k≤ao.length:=oM;have hb:=Rr dL hk hw h ha;rcases aa (uh k es) with jY|jY;have hs:=Ch dL hk' jY h;rw[oK,if_pos hs];exact zi hk' ha jY h hn;have hsplit:∃p e q,es=p++e::q∧uh k p∧e.step=k:=by
   clear h hn hb;induction es with
   | nil=>exact absurd (fun e he=>by simp at he) jY
   | cons e es ih=>
    have he:=hw e (by simp);rcases b7 e.step k with h1|h1;obtain⟨p,x,q,e1,e2,e3⟩:=ih (fun x hx=>hw x (bf _ hx)) (fun hin2=>jY fun x hx=>by
     rcases ax.1 hx with e4|e4
     ·rw[e4];exact h1
     ·exact hin2 x e4)
    refine⟨e::p,x,q,by rw[e1];rfl,fun y hy=>?_,e3⟩;rcases ax.1 hy with e4|e4;rw[e4];exact h1;exact e2 y e4;exact⟨[],e,es,rfl,fun x hx=>by simp at hx,oM⟩
  obtain⟨p,e,q,rfl,hp,hek⟩:=hsplit;obtain⟨m,w1,w2⟩:=A9.1 h;obtain⟨w3,w4⟩:=w2;subst w3;have hve:lh ao a (p++e::q)=lh ao a p++lh ao (nH ao e) q:=(by simp[lh]);rw[hve] at hn;obtain⟨n1,n2,n3⟩:=gh.1 hn;have hq:uh k q:=(by intro x hx;have hx1:=hw x (by simp[hx]);rcases b7 x.step k with h1|h1;exact h1;exfalso;have hxk:x.step=k:=oM;obtain⟨q1,q2,rfl⟩:=List.append_of_mem hx;obtain⟨m2,u1,u2⟩:=A9.1 w4;obtain⟨u3,u4⟩:=u2;have hs1:j9 ao e∈lh ao a p:=T8 w1;have nI:nH ao x≠nH ao e:=(by intro he;have:(nH ao e::(q1.map (nH ao)++nH ao x::q2.map (nH ao))).Nodup:=(by simpa[lh] using n2);have:=(gz.1 this).1;exact this (by simp[he]));have hne2:nH ao x≠j9 ao e:=(by intro he;exact n3 _ hs1 _ (by simp[lh]:nH ao x∈lh ao (nH ao e) (q1++x::q2)) he.symm);unfold nH at nI hne2;unfold j9 at hne2;rw[hxk,hek] at nI hne2;cases h5:x.back<;>cases h6:e.back<;>simp[h5,h6] at nI hne2);have pz:j9 ao e<aj.length:=Rr dL hk' hp w1 ha;have hlt2:nH ao e<aj.length:=JZ dL oM;have hok2:=(uQ dL (k:=k) oM).ne;have i1:=zi hk' ha hp w1 n1;have i2:=zi hk' hlt2 hq w4 n2;have s1:=Ch dL hk' hp w1;have s2:=Ch dL hk' hq w4;rw[oK];unfold j9 at i1 s1;unfold nH at i2 s2;rw[hek] at i1 i2 s1 s2;obtain⟨st,bk⟩:=e;simp only at hek;subst hek;cases bk;simp only[aw,if_false,vA,vB] at i1 i2 s1 s2;rw[if_neg (by rw[s1,←s2];exact hok2),if_pos s1,←i1,←i2];simp only[if_true,vA,vB] at i1 i2 s1 s2;rw[if_neg (by rw[s1,←s2];exact fun h=>hok2 h.symm),if_neg (by rw[s1];exact fun h=>hok2 h.symm),←i1,←i2]
theorem za:∀{k:Nat},k≤ao.length→∀{a b:Nat},a<aj.length→b<aj.length→cl (bl aj.length ao k) a=cl (bl aj.length ao k) b →
 uh k (oK aj.length ao k a b)∧ve ao a (oK aj.length ao k a b) b∧(lh ao a (oK aj.length ao k a b)).Nodup
 | 0,_,a,b,ha,hb,h=>by
  have e:∀i,i<aj.length→cl (bl aj.length ao 0) i=i:=fun i hi=>by rw[nN (by rw[kq];exact hi)];simp[bl]
  rw[e a ha,e b hb] at h;subst h;exact⟨fun x hx=>by simp[oK] at hx,rfl,by simp[oK,lh]⟩
 | k+1,hk,a,b,ha,hb,h=>by have hk':k≤ao.length:=oM;have up:∀{es:List Edge},uh k es→uh (k+1) es:=fun hw e he=>Nat.lt_succ_of_lt (hw e he);rw[Wo oM ha hb] at h;have hA:=O8 dL (k:=k) oM;have hB:=O5 dL (k:=k) oM;have nI:=(uQ dL (k:=k) oM).ne;rw[oK];rcases aa (cl (bl aj.length ao k) a=cl (bl aj.length ao k) b) with h1|h1;rw[if_pos h1];obtain⟨i1,i2,i3⟩:=za hk' ha hb h1;exact⟨up i1,i2,i3⟩;rw[if_neg h1];rcases h with h|⟨h,h'⟩|⟨h,h'⟩;exact(h1 h).elim;rw[if_pos (show _=cl _ (jQ ao k).A.toNat from h)];obtain⟨i1,i2,i3⟩:=za hk' ha hA h;obtain⟨j1,j2,j3⟩:=za hk' hB hb h'.symm;refine⟨?_,A9.2 ⟨_,i2,rfl,j2⟩,?_⟩;intro x hx;rcases aM.1 hx with e|e;exact up i1 x e;rcases ax.1 e with e|e;rw[e];exact Nat.lt_succ_self k;exact up j1 x e;have hve:lh ao a (oK aj.length ao k a (vA ao k)++⟨k,false⟩::oK aj.length ao k (vB ao k) b)=lh ao a (oK aj.length ao k a (vA ao k))++lh ao (vB ao k) (oK aj.length ao k (vB ao k) b):=(by simp[lh,nH]);refine hve▸gh.2 ⟨i3,j3,fun x hx y hy e=>?_⟩;have s1:=sq dL hk' i1 i2 x hx;have s2:=sq dL hk' j1 j2 y hy;rw[←e,s1] at s2;exact nI (h.symm.trans s2);have h2:¬cl (bl aj.length ao k) a=cl (bl aj.length ao k) (jQ ao k).A.toNat:=fun h3=>nI (h3.symm.trans h);rw[if_neg h2];obtain⟨i1,i2,i3⟩:=za hk' ha hB h;obtain⟨j1,j2,j3⟩:=za hk' hA hb h'.symm;refine⟨?_,A9.2 ⟨_,i2,rfl,j2⟩,?_⟩;intro x hx;rcases aM.1 hx with e|e;exact up i1 x e;rcases ax.1 e with e|e;rw[e];exact Nat.lt_succ_self k;exact up j1 x e;have hve:lh ao a (oK aj.length ao k a (vB ao k)++⟨k,true⟩::oK aj.length ao k (vA ao k) b)=lh ao a (oK aj.length ao k a (vB ao k))++lh ao (vA ao k) (oK aj.length ao k (vA ao k) b):=(by simp[lh,nH]);refine hve▸gh.2 ⟨i3,j3,fun x hx y hy e=>?_⟩;have s1:=sq dL hk' i1 i2 x hx;have s2:=sq dL hk' j1 j2 y hy;rw[←e,s1] at s2;exact h2 s2
end
def kE(db:List (Nat×Edge)):List Nat:=db.map Prod.fst
structure Met(N:Nat)(ao:List Step)(n from_:Nat)(db:List (Nat×Edge)):Prop where
 head:(kE db)[0]?=some from_
 nod:(kE db).Nodup
 lt:∀v∈kE db,v<N
 by_:∀(j:Nat)(v:Nat)(e:Edge),db[j]?=some (v,e)→0<j→e.step<n∧nH ao e=v∧∃i,i<j∧(kE db)[i]?=some (j9 ao e)
def Seen(ao:List Step)(n:Nat)(db:List (Nat×Edge))(v:Nat):Prop:=∀k,k<n→(vA ao k=v→vB ao k∈kE db)∧(vB ao k=v→vA ao k∈kE db)
def zh(ao:List Step)(n:Nat)(db:List (Nat×Edge))(i:Nat):Prop:=∀j v,j<i→(kE db)[j]?=some v→Seen ao n db v
theorem tu{N:Nat}:∀{l:List Nat},l.Nodup→(∀v∈l,v<N)→l.length≤N:=by intro l h1 h2;have:=(List.nodup_range (n:=N));have hs:l.length≤(cK N).length:=List.Nodup.length_le_of_subset h1 fun v hv=>jJ.2 (h2 v hv);simpa using hs
theorem xT(db:List (Nat×Edge)):(kE db).length=db.length:=by simp[kE]
theorem lL(a b:List (Nat×Edge)):kE (a++b)=kE a++kE b:=by simp[kE]
theorem YK{N:Nat}{ao:List Step}{n f:Nat}{db:List (Nat×Edge)}(h:Met N ao n f db):db.length≤N:=by rw[←xT];exact tu h.nod h.lt
theorem ZX{N:Nat}{ao:List Step}{n f:Nat}(hf:f<N)(e:Edge):Met N ao n f [(f,e)]:=
 ⟨rfl,by simp[kE],fun v hv=>by simp[kE] at hv;omega,fun j v e h hj=>by
  cases j with
  | zero=>omega
  | succ j=>simp at h⟩
theorem Y4{N:Nat}{ao:List Step}{n f:Nat}{db:List (Nat×Edge)}(h:Met N ao n f db){e:Edge}{i v:Nat}(he:e.step<n)(hi:(kE db)[i]?=some v)(hs:j9 ao e=v)(hn:nH ao e∉kE db)(pz:nH ao e<N) :
 Met N ao n f (db++[(nH ao e,e)]):=by
 have hl:=xT db
 have hi2:i<db.length:=by rw[←hl];exact(bP.1 hi).1
 refine⟨?_,?_,?_,?_⟩
 ·rw[lL,br oM];exact h.head
 ·rw[lL]
  refine gh.2 ⟨h.nod,by simp[kE],fun x hx y hy e1=>?_⟩
  simp only[kE,aJ,cL,ax,bB,or_false] at hy
  rw[e1,hy] at hx
  exact hn hx
 ·intro x hx
  rw[lL] at hx
  rcases aM.1 hx with hx|hx
  ·exact h.lt x hx
  ·simp only[kE,aJ,cL,ax,bB,or_false] at hx
   omega
 ·intro j w x hx hj
  rcases fg j db.length with h1|h1|h1
  ·rw[br h1] at hx
   obtain⟨a1,a2,k,a3,a4⟩:=h.by_ j w x hx hj
   exact⟨a1,a2,k,a3,by rw[lL,br oM];exact a4⟩
  ·subst h1
   rw[bG (aH _)] at hx
   simp only[jI,jh,Option.some.injEq,Prod.mk.injEq] at hx
   obtain⟨rfl,rfl⟩:=hx
   exact⟨he,rfl,i,hi2,by rw[lL,br oM,hi,hs]⟩
  ·grind
theorem Pj{ao:List Step}{n:Nat}{a b:List (Nat×Edge)}{v:Nat}(h:Seen ao n a v):Seen ao n (a++b) v:=fun k hk=>by rw[lL];exact⟨fun e=>dH _ ((h k hk).1 e),fun e=>dH _ ((h k hk).2 e)⟩
theorem Fv{ao:List Step}{n:Nat}{a b:List (Nat×Edge)}{i:Nat}(hi:i≤a.length)(h:zh ao n a i):zh ao n (a++b) i:=fun j v hj hv=>by rw[lL,br (by rw[xT];omega)] at hv;exact Pj (h j v hj hv)
theorem Sg{ao:List Step}{n:Nat}{db:List (Nat×Edge)}{i v:Nat}(h:zh ao n db i)(hv:(kE db)[i]?=some v)(hs:Seen ao n db v):zh ao n db (i+1):=fun j w hj hw=>by rcases b7 j i with h1|h1;exact h j w h1 hw;grind
theorem EM{ao:List Step}{n:Nat}{db:List (Nat×Edge)}(h:zh ao n db db.length):∀{es:List Edge}{a b:Nat},uh n es→ve ao a es b→a∈kE db→b∈kE db
 | [],a,b,_,hw,ha=>by simp only[ve] at hw;rw[←hw];exact ha
 | e::es,a,b,hi,hw,ha=>by obtain⟨j,hj,hj2⟩:=List.mem_iff_getElem.1 ha;have hs:=h j a (by rw[←xT];exact hj) (by rw[ae hj,hj2]);have he:=hi e (by simp);refine EM h (fun x hx=>hi x (bf _ hx)) hw.2 ?_;have h1:=hw.1;unfold j9 at h1;unfold nH;cases hb:e.back;rw[hb] at h1;simp only[aw,if_false] at h1⊢;exact(hs e.step he).1 h1;rw[hb] at h1;simp only[if_true] at h1⊢;exact(hs e.step he).2 h1
structure adQ(ao:List Step)(n to:Nat)(db:List (Nat×Edge))(j t:Nat)(out:List Edge):Prop where
 at_:(kE db)[j]?=some t
 in_:uh n out.reverse
 walk:ve ao t out.reverse to
 nod:(lh ao t out.reverse).Nodup
 OU:∀w∈out.reverse.map (nH ao),∃i,j<i∧(kE db)[i]?=some w
theorem Va{ao:List Step}{n to:Nat}{db:List (Nat×Edge)}{j:Nat}(h:(kE db)[j]?=some to):adQ ao n to db j to []:=
 ⟨h,fun e he=>by simp at he,rfl,by simp[lh],fun w hw=>by simp at hw⟩
theorem acn{l:List Nat}(h:l.Nodup){i j v:Nat}(hi:l[i]?=some v)(hj:l[j]?=some v):i=j:=by obtain⟨h1,h2⟩:=bP.1 hi;obtain⟨h3,h4⟩:=bP.1 hj;exact(List.getElem_inj h).1 (h2.trans h4.symm)
theorem ZP{N:Nat}{ao:List Step}{n f to:Nat}{db:List (Nat×Edge)}{j t:Nat}{out:List Edge}{e:Edge}(hm:Met N ao n f db)(h:adQ ao n to db j t out)(he:db[j]?=some (t,e))(hj:0<j) :
 ∃i,i<j∧adQ ao n to db i (j9 ao e) (out++[e]):=by
 obtain⟨h1,h2,i,h3,h4⟩:=hm.by_ j t e he hj
 have OU:∀w∈(out++[e]).reverse.map (nH ao),∃k,i<k∧(kE db)[k]?=some w:=by intro w hw;simp only[List.reverse_append,List.reverse_cons,List.reverse_nil,bQ,bu,aJ,ax] at hw;rcases hw with e1|hw;exact⟨j,h3,by rw[e1,h2];exact h.at_⟩;obtain⟨k,k1,k2⟩:=h.OU w hw;exact⟨k,oM,k2⟩
 refine⟨i,h3,h4,?_,?_,?_,OU⟩
 ·intro x hx
  simp only[List.reverse_append,List.reverse_cons,List.reverse_nil,bQ,bu,ax] at hx
  rcases hx with e1|hx
  ·rw[e1];exact h1
  ·exact h.in_ x hx
 ·simp only[List.reverse_append,List.reverse_cons,List.reverse_nil,bQ,bu,ve,true_and]
  rw[h2]
  exact h.walk
 ·refine gz.2 ⟨fun hmem=>?_,?_⟩
  ·obtain⟨k,k1,k2⟩:=OU _ hmem
   have:=acn hm.nod h4 k2
   omega
  ·have:=h.nod
   simp only[List.reverse_append,List.reverse_cons,List.reverse_nil,bQ,bu,aJ]
   rw[h2]
   exact this
theorem adC{aj:List az}{dx:List lH}{ao:List Step}{n f to:Nat}{db:List (Nat×Edge)}{j:Nat}{out:List Edge}(dL:qu aj dx ao)(hn:n≤ao.length)(hf:f<aj.length)(h:adQ ao n to db j f out):out.reverse=oK aj.length ao n f to:=
 zi dL hn hf h.in_ h.walk h.nod
theorem oS{α:Type}{l:List α}{i:Nat}{d:α}(h:i<l.length):l.getD i d∈l:=by rw[aE,ae h];exact ah h
theorem ji{α:Type}{l:List α}{i:Nat}{d:α}(h:i<l.length):l.getD i d=l[i]:=by rw[aE,ae h];rfl
structure TX(n:Nat)(r:gD):Prop where
 wE:jz r.wE=true
 len:r.oI.length=n
 bd:∀u∈r.oI,0≤u∧u≤1000000
def W7(n:Nat)(aK:List gD):Prop:=aK.length≤200∧∀r∈aK,TX n r
theorem TX.aeN{n:Nat}{r:gD}(h:TX n r)(v:Nat):-1000000≤eU r v∧eU r v≤1000000:=by obtain⟨h1,h2,_⟩:=pn.1 h.wE;unfold eU;rcases b7 v r.wE.bw.length with h3|h3;exact h2 _ (oS h3);rw[aE,bL h3];exact⟨by decide,by decide⟩
theorem aay(n i:Nat):(zS n i).length=n:=by simp[zS]
theorem aby{n i:Nat}:∀u∈zS n i,0≤u∧u≤1000000:=by intro u hu;rcases List.mem_or_eq_of_mem_set hu with h|h;rw[(List.mem_replicate.1 h).2];omega;rw[h];omega
theorem RX(ls:List mM):(dy ls).length=ls.length:=by simp[dy]
theorem Sp{ls:List mM}(h:oa ls=true):W7 ls.length (dy ls):=by simp only[oa,ab,decide_eq_true_eq,bh] at h;refine⟨by rw[RX];omega,fun r hr=>?_⟩;simp only[dy,bq,jJ] at hr;obtain⟨i,hi,rfl⟩:=hr;exact⟨h.2 _ (oS hi),aay _ _,aby⟩
theorem YL{n:Nat}{a b:gD}{v:Nat}(ha:TX n a)(hb:TX n b)(h1:0<eU a v)(h2:eU b v<0) :
 (1≤Gk a b v∧Gk a b v≤1000000)∧(1≤AL a b v∧AL a b v≤1000000)∧(1≤AB a b v∧AB a b v≤1000000):=by
 have ca:=ha.aeN v
 have cb:=hb.aeN v
 have key:∀{x y:Int},0<x→0<y→x≤1000000→(1≤(dK x y:Int)∧(dK x y:Int)≤x)∧(1≤x.tdiv (dK x y)∧x.tdiv (dK x y)≤x):=by intro x y hx hy hm;have g1:0<dK x y:=Int.gcd_pos_of_ne_zero_left _ oM;have g2:(dK x y:Int)∣x:=Int.gcd_dvd_left ..;have g3:(dK x y:Int)≤x:=Int.le_of_dvd hx g2;refine⟨⟨oM,g3⟩,?_,?_⟩;rw[l9 oM];exact Int.le_ediv_of_mul_le oM oM;rw[l9 oM];exact Int.ediv_le_self _ oM
 have k1:=key h1 (y:=-(eU b v)) oM ca.2
 have k2:=key (x:=-(eU b v)) (y:=eU a v) oM h1 oM
 rw[Int.gcd_comm] at k2
 unfold AL AB Gk
 omega
theorem Yx:∀{m n:Int}{as bs:List Int},(0≤m∧m≤1000000)→(0≤n∧n≤1000000)→(∀u∈as,0≤u∧u≤1000000)→(∀u∈bs,0≤u∧u≤1000000)→∀u∈jW m n as bs,0≤u∧u≤2000000000000
 | _,_,[],_,_,_,_,_,u,hu=>by simp[jW] at hu
 | _,_,_::_,[],_,_,_,_,u,hu=>by simp[jW] at hu
 | m,n,a::as,b::bs,hm,hn,h1,h2,u,hu=>by simp only[jW,ax] at hu;rcases hu with e|hu;have ha:=h1 a (by simp);have hb:=h2 b (by simp);have p1:0≤m*a:=Int.mul_nonneg hm.1 ha.1;have p2:0≤n*b:=Int.mul_nonneg hn.1 hb.1;have p3:=(jO hm.1 hm.2 (b:=a) ⟨oM,ha.2⟩).2;have p4:=(jO hn.1 hn.2 (b:=b) ⟨oM,hb.2⟩).2;rw[e];omega;exact Yx hm hn (fun x hx=>h1 x (bf _ hx)) (fun x hx=>h2 x (bf _ hx)) u hu
theorem Zt{a b:mM}{m n:Int}(h:(jP a m b n).2=true):jz (jP a m b n).1=true:=by unfold jP va at h⊢;split;rename_i h1;rw[if_pos h1] at h;split;rename_i h2;exact h2;rename_i h2;rw[if_neg h2] at h;cases h;rename_i h1;rw[if_neg h1] at h;cases h
theorem acv{n:Nat}{a b:gD}{v:Nat}(ha:TX n a)(hb:TX n b)(h1:0<eU a v)(h2:eU b v<0)(h:HE a b v=true):TX n (Tg a b v):=by simp only[HE,ab,bh,decide_eq_true_eq] at h;obtain⟨_,hp,hq⟩:=YL ha hb h1 h2;refine⟨Zt h.1,?_,fun u hu=>⟨?_,h.2 u hu⟩⟩;show(jW _ _ _ _).length=n;rw[tF (by rw[ha.len,hb.len]),ha.len];exact(Yx ⟨oM,hq.2⟩ ⟨oM,hp.2⟩ ha.bd hb.bd u hu).1
theorem XQ{a:gD}{v:Nat}{aK:List gD}{p:gD×gD}(h:p∈zK a v aK):p.1=a∧p.2∈aK∧0<eU p.1 v∧eU p.2 v<0:=by simp only[zK,List.mem_filterMap] at h;obtain⟨b,hb,e⟩:=h;split at e;rename_i hc;simp only[Option.some.injEq] at e;rw[←e];exact⟨rfl,hb,hc.1,hc.2⟩;cases e
theorem H3{n v:Nat}:∀{ps:List (gD×gD)}{out r:List gD},(∀p∈ps,TX n p.1∧TX n p.2∧0<eU p.1 v∧eU p.2 v<0)→W7 n out→qZ v ps out=some r→W7 n r
 | [],out,r,_,ho,h=>by simp only[qZ,Option.some.injEq] at h;rw[←h];exact ho
 | (a,b)::ps,out,r,hp,ho,h=>by rw[qZ] at h;split at h;rename_i hc;obtain⟨g1,g2,g3,g4⟩:=hp (a,b) (by simp);refine H3 (fun p hq=>hp p (bf _ hq)) ⟨by simp;omega,fun x hx=>?_⟩ h;rcases aM.1 hx with e|e;exact ho.2 x e;simp only[ax,bB,or_false] at e;rw[e];exact acv g1 g2 g3 g4 hc.1;cases h
theorem Zg{n v:Nat}{all aK:List gD}(h1:∀r∈all,TX n r)(h2:∀r∈aK,TX n r):∀p∈zA all aK v,TX n p.1∧TX n p.2∧0<eU p.1 v∧eU p.2 v<0:=by intro p hp;simp only[zA,gF] at hp;obtain⟨a,ha,hb⟩:=hp;obtain⟨e1,e2,e3,e4⟩:=XQ hb;exact⟨e1▸h2 a ha,h1 _ e2,e3,e4⟩
theorem pS{n v:Nat}{aK r:List gD}(h:W7 n aK)(hr:oz aK v=some r):W7 n r:=
 H3 (Zg h.2 h.2) ⟨Nat.le_trans (List.length_filter_le _ _) h.1,fun x hx=>h.2 x (List.mem_filter.1 hx).1⟩ hr
theorem Tb{a:gD}{v j:Nat}{aK:List gD}(h:j<aK.length):zK a v (aK.drop j)=(if 0<eU a v∧eU aK[j] v<0 then [(a,aK[j])] else [])++zK a v (aK.drop (j+1)):=by unfold zK;rw[ai h,List.filterMap_cons];split<;>simp_all
theorem SC{v i:Nat}{all aK:List gD}(h:i<aK.length):zA all (aK.drop i) v=zK aK[i] v all++zA all (aK.drop (i+1)) v:=by unfold zA;rw[ai h,List.flatMap_cons]
theorem Te{α:Type}{p:α→Bool}{l:List α}{i:Nat}(h:i<l.length):(l.take (i+1)).filter p=(l.take i).filter p++(if p l[i] then [l[i]] else []):=by rw[bn,ae h,List.filter_append];congr 1;simp only[Option.toList_some,List.filter_cons,List.filter_nil]
theorem L0(xs:List Rat)(sum:Rat):re [] xs sum=some sum:=by cases xs<;>rfl
theorem Vp(v i:Nat)(xs:List Rat)(sum:Rat):xy v i [] xs sum=some sum:=by cases xs<;>rfl
theorem Sw{v i:Nat}{cs:List Int}{xs:List Rat}(h:i<cs.length)(h':i<xs.length)(sum:Rat):xy v i (cs.drop i) (xs.drop i) sum=if i=v then xy v (i+1) (cs.drop (i+1)) (xs.drop (i+1)) sum else if(plus sum (-cs[i]) xs[i]).2 then xy v (i+1) (cs.drop (i+1)) (xs.drop (i+1)) (plus sum (-cs[i]) xs[i]).1 else none:=by rw[ai h,ai h',xy]
theorem Tx{i:Nat}{cs:List Int}{xs:List Rat}(h:i<cs.length)(h':i<xs.length)(sum:Rat):re (cs.drop i) (xs.drop i) sum=if(plus sum cs[i] xs[i]).2 then re (cs.drop (i+1)) (xs.drop (i+1)) (plus sum cs[i] xs[i]).1 else none:=by rw[ai h,ai h',re]
theorem Ta{v i:Nat}{aV:List Rat}{aK:List gD}(h:i<aK.length)(lo hi:Option Rat):ui v aV (aK.drop i) lo hi=if eU aK[i] v=0 then ui v aV (aK.drop (i+1)) lo hi else match rD aK[i].wE v aV with
 | none=>none
 | some b=>if 0<eU aK[i] v then ui v aV (aK.drop (i+1)) lo (if lower b hi then some b else hi) else ui v aV (aK.drop (i+1)) (if upper b lo then some b else lo) hi:=by
 rw[ai h,ui]
 try rfl
theorem Il{n d:Int}(h:(nw n d).2=false):(nw n d).1=ue:=by unfold nw at h⊢;split;rfl;rename_i h0;rw[if_neg h0] at h;simp only at h⊢;generalize (⟨_,_⟩:Rat)=x at h⊢;cases hx:eC x;simp;simp[hx] at h
theorem Im{a b:Rat}(h:(ml a b).2=false):(ml a b).1=ue:=by unfold ml at h⊢;split;rename_i h0;rw[if_pos h0] at h;exact Il h;rfl
theorem H9{a b:Rat}(h:(nz a b).2=false):(nz a b).1=ue:=by unfold nz at h⊢;split;rename_i h0;rw[if_pos h0] at h;exact Il h;rfl
theorem Ud{a b:Rat}(h:(Bu a b).2=false):(Bu a b).1=ue:=by unfold Bu at h⊢;split;rename_i h0;rw[if_pos h0] at h;exact H9 h;rfl
theorem Py{x:Rat×Bool}(h:x.2=false→x.1=ue):(XC x).getD ue=x.1∧(XC x).isSome=x.2:=by unfold XC;cases hx:x.2;rw[if_neg (by simp),h hx];exact⟨rfl,rfl⟩;rw[if_pos rfl];exact⟨rfl,rfl⟩
theorem Qm:∀{l h:Option Rat},(E0 l h).2=false→(E0 l h).1=ue
 | some _,some _,h=>Ud h
 | none,some _,h=>Im h
 | some _,none,h=>Im h
 | none,none,h=>by cases h
theorem xb{aK:List gD}{v:Nat}{aV:List Rat}{st:List (List gD)}(h:valueOf aK v aV=none):pH (aK::st) v aV=none:=by rw[pH,h]
theorem wT{aK:List gD}{v:Nat}{aV:List Rat}{st:List (List gD)}{x:Rat}(h:valueOf aK v aV=some x):pH (aK::st) v aV=pH st (v+1) (aV.set v x):=by rw[pH,h]
theorem SN{l:List Rat}{i:Nat}{x:Rat}:(dC l).set i (lM x)=dC (l.set i x):=by simp[dC,mI]
theorem wZ{l:List Rat}{i:Nat}{x:Rat}(h:i<l.length):(dC l).set i (vz (row (dC l) i) 0 [.val (.int .i64 x.N),.val (.int .i64 x.D)])=dC (l.set i x):=by rw[Ii h,←SN];rfl
theorem o3{s n:Nat}{p:Nat×Nat}:p∈fH s n↔s≤p.1∧p.1<p.2∧p.2<n:=by obtain⟨i,k⟩:=p;simp only[fH,gF,bq,List.mem_range'_1,Prod.mk.injEq];constructor;rintro⟨i',h1,k',h2,rfl,rfl⟩;omega;rintro⟨h1,h2,h3⟩;exact⟨i,oM,k,oM,rfl,rfl⟩
theorem Jd{i n:Nat}(h:i<n):fH i n=(iC (i+1) (n-(i+1))).map (fun k=>(i,k))++fH (i+1) n:=by unfold fH;rw[tr h];rfl
theorem Bq{i n:Nat}(h:n≤i):fH i n=[]:=by unfold fH;rw[wc h];rfl
theorem rh{n:Nat}{p:Nat→Nat→Bool}{q:Nat×Nat}(h:eW n p=some q):q.1<q.2∧q.2<n∧p q.1 q.2=true:=by have h1:=List.find?_some h;have h2:=o3.1 (im h);exact⟨h2.2.1,h2.2.2,h1⟩
theorem AE{n:Nat}{p:Nat→Nat→Bool}(h:eW n p=none){i k:Nat}(h1:i<k)(h2:k<n):p i k=false:=by have:=List.find?_eq_none.1 h (i,k) (o3.2 ⟨bT _,h1,h2⟩);simpa using this
theorem countP_le{α:Type}{p q:α→Bool}:∀{l:List α},(∀x∈l,p x=true→q x=true)→l.countP p≤l.countP q
 | [],_=>aH _
 | x::l,h=>by have:=countP_le (l:=l) fun y hy=>h y (bf _ hy);have hx:=h x (by simp);simp only[List.countP_cons];cases hp:p x;simp;omega;simp[hx hp];omega
theorem GC{α:Type}{p q:α→Bool}:∀{l:List α}{x:α},(∀x∈l,p x=true→q x=true)→x∈l→p x=false→q x=true→l.countP p<l.countP q
 | y::l,x,h,hx,hp,hq=>by simp only[List.countP_cons];rcases ax.1 hx with e|e;have:=countP_le (l:=l) fun y hy=>h y (bf _ hy);rw[←e,hp,hq];simp;omega;have:=GC (l:=l) (fun y hy=>h y (bf _ hy)) e hp hq;have hy:=h y (by simp);cases hpy:p y;simp;omega;simp[hy hpy];omega
theorem EW(an:List az)(out:List Nat)(e:lH):(iJ an out e).length=out.length:=by unfold iJ;split<;>simp
theorem vo(an:List az)(dx:List lH):(nk an dx).length=an.length:=by
 unfold nk;have:∀(l:List lH)(c:List Nat),(l.foldl (iJ an) c).length=c.length:=by
  intro l;induction l with
  | nil=>intro c;rfl
  | cons s l ih=>intro c;rw[iW,ih,EW]
 rw[this,kU]
theorem Lm(an:List az)(dx:List lH)(e:lH):nk an (dx++[e])=iJ an (nk an dx) e:=by rw[nk,kW];rfl
theorem Ox{an:List az}{out:List Nat}{e:lH}{i k:Nat}(hi:i<out.length)(hk:k<out.length)(h:cl out i=cl out k):cl (iJ an out e) i=cl (iJ an out e) k:=by unfold iJ;split;exact h;rw[Ec hi,Ec hk,h]
theorem Pb(a b:List cC):cG (a++b)=cG a++cG b:=by simp[cG]
theorem SJ(a b:az):cG [kQ a b]=[⟨a,b⟩]:=rfl
theorem S4{an:List az}{af more:List cC}{i k:Nat}(hi:i<an.length)(hk:k<an.length)(h:iH an af i k=true):iH an (af++more) i k=true:=by
 simp only[iH,decide_eq_true_eq] at h⊢;rw[Pb];generalize cG more=es;generalize cG af=ds at h;induction es generalizing ds with
 | nil=>rw[bV];exact h
 | cons e es ih=>
  have:=ih (ds++[e]) (by
   rw[Lm]
   exact Ox (by rw[vo];exact hi) (by rw[vo];exact hk) h)
  rw[bm] at this;exact this
theorem r9{an:List az}(hn:an.Nodup){i:Nat}(hi:i<an.length):dN an an[i]=i:=by have hm:an[i]∈an:=ah hi;have h1:=lB hm;have h2:=gm.2 hm;obtain⟨h3,h4⟩:=bP.1 h1;have:=(List.getElem_inj hn).1 h4;omega
theorem kN{an:List az}{i:Nat}(hi:i<an.length):an.getD i aX=an[i]:=by rw[aE,ae hi];rfl
theorem XV{an:List az}(hn:an.Nodup){af:List cC}{i k:Nat}(hi:i<an.length)(hk:k<an.length):iH an (af++[kQ (an.getD i aX) (an.getD k aX)]) i k=true:=by simp only[iH,decide_eq_true_eq];rw[Pb,SJ,Lm,iJ,kN hi,kN hk];have e1:=r9 hn hi;have e2:=r9 hn hk;simp only[e1,e2,a8,aS];rw[if_neg oM,Ec (by rw[vo];exact hi),Ec (by rw[vo];exact hk)];simp
theorem IT{an:List az}{af more:List cC}{i k:Nat}(h:jr an af i k=true):jr an (af++more) i k=true:=by simp only[jr,List.any_append,Bool.or_eq_true] at h⊢;exact .inl h
theorem Xb(a b:az):(gC a b).no=false:=by unfold gC;split<;>rfl
theorem Kz{an:List az}{af:List cC}{i k:Nat}:jr an (af++[gC (an.getD i aX) (an.getD k aX)]) i k=true:=by simp[jr,Xb]
def tQ(an:List az)(af:List cC)(i k:Nat):Bool:=!iH an af i k&&(!jr an af i k&& !jr an af k i)
def room(an:List az)(af:List cC):Nat:=(fH 0 an.length).countP (fun q=>!iH an af q.1 q.2)+(fH 0 an.length).countP (fun q=>tQ an af q.1 q.2)
theorem zf{an:List az}{af more:List cC}:∀q∈fH 0 an.length,(!iH an (af++more) q.1 q.2)=true→(!iH an af q.1 q.2)=true:=by intro q hq h;have hm:=o3.1 hq;cases hl:iH an af q.1 q.2;rfl;rw[S4 oM oM hl] at h;cases h
theorem S2{an:List az}{af more:List cC}:∀q∈fH 0 an.length,tQ an (af++more) q.1 q.2=true→tQ an af q.1 q.2=true:=by intro q hq h;simp only[tQ,ab] at h⊢;refine⟨zf q hq h.1,?_,?_⟩;cases hl:jr an af q.1 q.2;rfl;rw[IT hl] at h;simp at h;cases hl:jr an af q.2 q.1;rfl;have:=h.2.2;rw[IT hl] at this;cases this
theorem agM{an:List az}(hn:an.Nodup){af:List cC}{i k:Nat}(h1:i<k)(h2:k<an.length)(h:iH an af i k=false):room an (af++[kQ (an.getD i aX) (an.getD k aX)])<room an af:=by unfold room;have a:=GC (x:=(i,k)) (zf (more:=[kQ (an.getD i aX) (an.getD k aX)])) (o3.2 ⟨bT _,h1,h2⟩) (by show(!iH an (af++[kQ (an.getD i aX) (an.getD k aX)]) i k)=false;rw[XV hn (show i<an.length by omega) h2];rfl) (by rw[h];rfl);have b:=countP_le (S2 (an:=an) (af:=af) (more:=[kQ (an.getD i aX) (an.getD k aX)]));omega
theorem OH{an:List az}{af:List cC}{i k:Nat}(h1:i<k)(h2:k<an.length)(h:tQ an af i k=true){l:cC}(hl:l=gC (an.getD i aX) (an.getD k aX)∨l=gC (an.getD k aX) (an.getD i aX)):room an (af++[l])<room an af:=by
 unfold room;have a:=countP_le (zf (an:=an) (af:=af) (more:=[l]));have b:=GC (x:=(i,k)) (S2 (an:=an) (af:=af) (more:=[l])) (o3.2 ⟨bT _,h1,h2⟩) (by
  rcases hl with rfl|rfl
  ·simp only[tQ,Kz];simp
  ·simp only[tQ,Kz];simp) h
 omega
theorem room_le{an:List az}(h:an.length≤4)(af:List cC):room an af≤12:=by
 have a:=List.countP_le_length (p:=fun q:Nat×Nat=>!iH an af q.1 q.2) (l:=fH 0 an.length);have b:=List.countP_le_length (p:=fun q:Nat×Nat=>tQ an af q.1 q.2) (l:=fH 0 an.length);have c:(fH 0 an.length).length≤6:=by have key:∀n,n≤4→(fH 0 n).length≤6:=(by decide);exact key _ h
 unfold room;omega
def mo(aj:List az):Prop:=∀t∈aj,∀k∈t.ar,k∈aj
theorem df{aj:List az}{t:az}(h:t∈aj):a8 aj t<aj.length:=zj h
theorem fP{aj:List az}{t:az}(h:t∈aj):dN aj t=(a8 aj t:Int):=by have:=gm.2 h;unfold a8;omega
theorem UR{aj:List az}{c:List Nat}{xs ys:List az}{i:Nat}(h:i<xs.length)(h':i<ys.length):oV aj c (xs.drop i) (ys.drop i)=(SI aj c xs[i] ys[i]&&oV aj c (xs.drop (i+1)) (ys.drop (i+1))):=by rw[ai h,ai h',oV]
theorem XH{aj:List az}{c:List Nat}:oV aj c [] []=true:=rfl
theorem Lc{aj:List az}{c:List Nat}:∀{xs ys:List az},xs.length≠ys.length→oV aj c xs ys=false
 | [],[],h=>(h rfl).elim
 | [],_::_,_=>rfl
 | _::_,[],_=>rfl
 | x::xs,y::ys,h=>by rw[oV,Lc (by simpa using h),Bool.and_false]
def kH(c:List Nat)(from_ to i:Nat):List Nat:=((c.take i).map fun k=>if k=from_ then to else k)++c.drop i
theorem yP(c:List Nat)(f t i:Nat):(kH c f t i).length=c.length:=by simp[kH];omega
theorem zg{c:List Nat}{f t i:Nat}(h:i<c.length)(h':i<(kH c f t i).length):(kH c f t i)[i]=c[i]:=by
 have:(kH c f t i)[i]?=some c[i]:=by unfold kH;rw[bG (by simp;omega)];simp only[cd,a6,Nat.min_eq_left (Nat.le_of_lt h),jI,List.getElem?_drop,Nat.add_zero];exact ae h
 exact(bP.1 this).2
theorem xi{c:List Nat}{f t i:Nat}(h:i<c.length):kH c f t (i+1)=(kH c f t i).set i (if c[i]=f then t else c[i]):=by
 have e:((c.take i).map fun k=>if k=f then t else k).length=i:=by rw[cd,a6,Nat.min_eq_left (Nat.le_of_lt h)]
 unfold kH;rw[List.set_append_right _ _ oM,e,jI,ai h,List.set_cons_zero,bn,ae h,dA,bm];rfl
theorem BC{c:List Nat}{f t i:Nat}(h:i<c.length)(nI:c[i]≠f):kH c f t (i+1)=kH c f t i:=by
 rw[xi h,if_neg nI]
 conv=>rhs;rw[←List.set_getElem_self (as:=kH c f t i) (i:=i) (h:=by rw[yP];exact h)]
 rw[zg h]
theorem Ws{c:List Nat}{a b i:Nat}(h:c.length≤i):kH c (max (cl c a) (cl c b)) (min (cl c a) (cl c b)) i=km c a b:=by unfold kH km;rw[List.take_of_length_le h,List.drop_of_length_le h,bV]
theorem Cl{l:List Nat}{i n:Nat}(h:i<l.length):(eZ l).set i (vz (row (eZ l) i) 0 [.val (.int .i64 (n:Int))])=eZ (l.set i n):=by rw[vn h,←ZO];rfl
def vE(e l n:Nat):List (Nat×Nat):=(iC e (l-e)).map (fun e=>(e,l))++mu (l+1) n
theorem L8{l n:Nat}(h:l<n):mu l n=vE 0 l n:=MD h
theorem NO{e l n:Nat}(h:e<l):vE e l n=(e,l)::vE (e+1) l n:=by unfold vE;rw[tr h];rfl
theorem RF{e l n:Nat}(h:l≤e):vE e l n=mu (l+1) n:=by unfold vE;rw[wc h];rfl
def Ka(aj:List az)(ao:List Step)(xU:Nat→Nat→Nat→o8)(i:Nat):o8:=
 if(jQ ao i).given<0 then .mk 5 0 (.mk (aj.getD (vA ao i) aX).name []) (((aj.getD (vA ao i) aX).ar.zip (aj.getD (vB ao i) aX).ar).map fun p=>xU i (a8 aj p.1) (a8 aj p.2)) else .mk 2 (jQ ao i).given aX []
theorem V9(aj:List az)(ao:List Step)(xU:Nat→Nat→Nat→o8)(e:Edge):ri aj ao xU e=if e.back then .mk 3 0 aX [Ka aj ao xU e.step] else Ka aj ao xU e.step:=rfl
theorem MO{ao:List Step}{i:Nat}(h:i<ao.length):jQ ao i=ao[i]:=by rw[jQ,aE,ae h];rfl
theorem Uq{c:List Nat}{a b m:Nat}(h:∀x∈c,x≤m):∀x∈km c a b,x≤m:=by
 intro x hx;simp only[km,bq] at hx;obtain⟨y,hy,rfl⟩:=hx;have hle:∀i,cl c i≤m:=fun i=>by rcases b7 i c.length with h1|h1;exact h _ (KY h1);rw[ag3 h1];exact bT _
 have:=hle a;have:=hle b;have:=h y hy;split<;>omega
theorem yq{m:Nat}:∀{c:List Nat},(∀x∈c,x≤m)→c.sum≤c.length*m
 | [],_=>by simp
 | x::c,h=>by have h1:=h x (by simp);have h2:=yq (c:=c) fun y hy=>h y (bf _ hy);simp only[List.sum_cons,List.length_cons,Nat.add_mul];omega
theorem GH{aj:List az}{c:List Nat}:∀{xs ys:List az},oV aj c xs ys=true→xs.length=ys.length∧∀(i:Nat)(h:i<xs.length)(h':i<ys.length),cl c (a8 aj xs[i])=cl c (a8 aj ys[i])
 | [],[],_=>⟨rfl,fun i h=>by simp at h⟩
 | [],_::_,h=>by cases h
 | _::_,[],h=>by cases h
 | x::xs,y::ys,h=>by
  simp only[oV,ab] at h;obtain⟨i1,i2⟩:=GH h.2;refine⟨by simp[i1],fun i h1 h2=>?_⟩;cases i with
  | zero=>simpa[SI] using h.1
  | succ i=>exact i2 i (by simpa using h1) (by simpa using h2)
theorem adm{aj:List az}{c:List Nat}{a b:Nat}(h:alike aj c a b=true):0<(aj.getD a aX).ar.length∧(aj.getD a aX).name=(aj.getD b aX).name∧(aj.getD a aX).ar.length=(aj.getD b aX).ar.length ∧
 ∀(i:Nat)(h:i<(aj.getD a aX).ar.length)(h':i<(aj.getD b aX).ar.length),cl c (a8 aj (aj.getD a aX).ar[i])=cl c (a8 aj (aj.getD b aX).ar[i]):=by
 simp only[alike,ab,decide_eq_true_eq] at h
 obtain⟨i1,i2⟩:=GH h.2.2
 exact⟨h.1,h.2.1,i1,i2⟩
theorem acd{α β γ:Type}{f:α×β→γ}{xs:List α}{ys:List β}{i:Nat}(h:i<xs.length)(h':i<ys.length):((xs.zip ys).take (i+1)).map f=((xs.zip ys).take i).map f++[f (xs[i],ys[i])]:=by rw[bn,ae (by simp;omega),dA];simp
def abh(one:Edge→o8)(t:az):List Edge→o8
 | []=>.mk 1 0 t []
 | e::es=>xw one (one e) es
theorem agG(aj:List az)(ao:List Step)(f n a b:Nat):uc aj ao (f+1) n a b=abh (ri aj ao (uc aj ao f)) (aj.getD a aX) (oK aj.length ao n a b):=by rw[uc];cases oK aj.length ao n a b<;>rfl
theorem Sz{one:Edge→o8}{t:az}{way:List Edge}(h:0<way.length):abh one t way=xw one (one way[0]) (way.drop 1):=by
 cases way with
 | nil=>simp at h
 | cons e es=>rfl
end Go.Mod
