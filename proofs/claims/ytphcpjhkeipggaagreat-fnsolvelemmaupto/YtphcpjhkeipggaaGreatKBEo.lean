/-
  Searches that can find nothing: what they decide is an atom each time. In plain Lean, no program is walked here.
-/
import Derived.Test.YtphcpjhkeipggaaGreatKBEc
set_option linter.unusedVariables false
set_option linter.unusedSimpArgs false
open Classical renaming em→aa
open List renaming mem_append→aO,mem_singleton→cO
namespace Go.Mod
open Go.Eng
set_option maxRecDepth 100000
theorem ZN{aS:List (List Int)}{put:List Int}(h:zK put)(hl:∀x∈aS,∀l∈x,l≠0∧l.natAbs≤60)(hn:(scan put aS).1≠0):zK (put++[(scan put aS).1]):=by obtain⟨c,hc,h1,h2,h3⟩:=SC hn;have:=hl c hc _ h1;exact Ag h this.1 this.2 h2 h3
theorem Lt{aS:List (List Int)}(hl:∀x∈aS,∀l∈x,l≠0∧l.natAbs≤60):∀(n:Nat)(put:List Int),zK put→61≤n+put.length →
 zK (yY aS n put).1∧(∀x∈put,x∈(yY aS n put).1)∧((yY aS n put).2=false→scan (yY aS n put).1 aS=(0,false))
 | 0,put,hp,hn=>by have:=aen hp;omega
 | n+1,put,hp,hn=>by rw[yY];cases h1:(scan put aS).2;simp only[Bool.false_eq_true,if_false];rcases aa ((scan put aS).1=0) with h2|h2;rw[if_pos h2];exact⟨hp,fun x hx=>hx,fun _=>Prod.ext h2 h1⟩;rw[if_neg h2];have ih:=Lt hl n (put++[(scan put aS).1]) (ZN hp hl h2) (by simp;omega);exact⟨ih.1,fun x hx=>ih.2.1 x (List.mem_append_left _ hx),ih.2.2⟩;simp only[if_true];exact⟨hp,fun x hx=>hx,fun h=>by cases h⟩
theorem RC{aS:List (List Int)}(hl:∀x∈aS,∀l∈x,l≠0∧l.natAbs≤60){put:List Int}(hp:zK put) :
 zK (pO aS put).1∧(∀x∈put,x∈(pO aS put).1)∧((pO aS put).2=false→scan (pO aS put).1 aS=(0,false)):=
 Lt hl _ put hp oM
def aiw(put:List Int)(f:Int)(b:Bool)(i:Int):Bool:=if i=f then b else put.contains i
def Told(put:List Int)(x:Int):Prop:=x∈put ∨ -x∈put
def abQ(atoms:List cR)(c:wo)(f:Int):Prop:=∃(c':wo)(t:bU),(∀x∈c'.aS,x∈c.aS)∧(∀x∈c'.aS,Good f x)∧∀v:Int→Bool,ah2 v c'=true→v f=holds (fun a=>v (jG atoms a+1)) t
theorem abQ.up{atoms:List cR}{c d:wo}{f:Int}(h:abQ atoms c f)(hs:∀x∈c.aS,x∈d.aS):abQ atoms d f:=by obtain⟨c',t,h1,h2,h3⟩:=h;exact⟨c',t,fun x hx=>hs x (h1 x hx),h2,h3⟩
def u7(put:List Int):Nat→Int→Int
 | 0,f=>f
 | v+1,f=>u7 put v (if put.contains ((v:Int)+1) then f else if put.contains (-((v:Int)+1)) then f else(v:Int)+1)
structure Un(n:Nat)(c:wo):Prop where
 six:n≤6
 dL:0≤c.dL∧c.dL≤60
 ok:O4 c=true
 len:c.aS.length≤400
 clause:∀x∈c.aS,(∀l∈x,l≠0∧l.natAbs≤60)∧x.length≤1000
 key:∀put:List Int,zK put→scan put c.aS=(0,false)→∃f:Nat,u7 put c.dL.toNat 0=f∧1≤f∧f≤n∧(f:Int)∉put ∧ -(f:Int)∉put
structure Cd where
 fuel:Int
 log:List (List Int)
 out:Bool
def Xq(dec:List Int)(h:Cd):Cd:=⟨h.fuel,h.log++[(FD (dec.map fun l=>-l)).getD []],h.out⟩
def Ig(c:wo):Nat→List Int→Cd→Cd
 | 0,_,h=>⟨h.fuel,h.log,true⟩
 | d+1,dec,h=>if h.fuel=0 then⟨h.fuel,h.log,true⟩ else
   if(pO c.aS dec).2 then Xq dec ⟨h.fuel-1,h.log,h.out⟩ else
   let f:=u7 (pO c.aS dec).1 c.dL.toNat 0
   let g:=Ig c d (dec++[-f]) ⟨h.fuel-1,h.log,h.out⟩
   if g.out then g else
   let k:=Ig c d (dec++[f]) g
   if k.out then k else Xq dec k
def aeN(c:wo)(d:Nat)(dec:List Int)(f:Int)(g:Cd):Cd:=if(Ig c d (dec++[f]) g).out then Ig c d (dec++[f]) g else Xq dec (Ig c d (dec++[f]) g)
def agV(c:wo)(d:Nat)(dec:List Int)(f:Int)(g:Cd):Cd:=if(Ig c d (dec++[-f]) g).out then Ig c d (dec++[-f]) g else aeN c d dec f (Ig c d (dec++[-f]) g)
def ah9(c:wo)(d:Nat)(dec:List Int)(f:Int)(i:Nat)(g:Cd):Cd:=if i=0 then agV c d dec f g else if i=1 then aeN c d dec f g else Xq dec g
def Ck(n:Nat)(dec:List Int):Prop:=zK dec∧∀l∈dec,l.natAbs≤n
theorem Ck.len{n:Nat}{dec:List Int}(h:Ck n dec):dec.length≤n:=by
 have h1:=J6 n (dec.map fun m=>m.natAbs-1) (by
  rw[List.pairwise_map];refine List.Pairwise.imp_of_mem ?_ h.1.1;intro a b ha hb hab e;have:=h.1.2 a ha;have:=h.1.2 b hb;exact hab oM) (fun x hx=>by
  obtain⟨m,hm,rfl⟩:=List.mem_map.1 hx;have:=h.1.2 m hm;have:=h.2 m hm;omega)
 rwa [List.length_map] at h1
theorem Ck.snoc{n:Nat}{c:wo}(hu:Un n c){dec:List Int}(h:Ck n dec)(hb:(pO c.aS dec).2=false):∃f:Nat,u7 (pO c.aS dec).1 c.dL.toNat 0=f∧1≤f∧f≤n∧Ck n (dec++[-(f:Int)])∧Ck n (dec++[(f:Int)]):=by obtain⟨u1,u2,u3⟩:=RC (fun x hx l hl=>(hu.clause x hx).1 l hl) h.1;obtain⟨f,f1,f2,f3,f4,f5⟩:=hu.key _ u1 (u3 hb);have h6:=hu.six;refine⟨f,f1,f2,f3,⟨Ag h.1 oM oM (fun hh=>f5 (u2 _ hh)) (fun hh=>f4 (u2 _ (by simpa using hh))),?_⟩,⟨Ag h.1 oM oM (fun hh=>f4 (u2 _ hh)) (fun hh=>f5 (u2 _ hh)),?_⟩⟩;intro l hl;rcases aO.1 hl with hl|hl;exact h.2 l hl;rw[cO.1 hl];omega;intro l hl;rcases aO.1 hl with hl|hl;exact h.2 l hl;rw[cO.1 hl];omega
structure Dc(n:Nat)(c:wo):Prop where
 six:n≤6
 dL:0≤c.dL∧c.dL≤60
 len:c.aS.length≤400
 clause:∀x∈c.aS,(∀l∈x,l≠0∧l.natAbs≤60)∧x.length≤1000
 key:∀put:List Int,zK put→scan put c.aS=(0,false)→u7 put c.dL.toNat 0=0∨∃f:Nat,u7 put c.dL.toNat 0=f∧1≤f∧f≤n∧(f:Int)∉put ∧ -(f:Int)∉put
theorem Ck.next{n:Nat}{c:wo}(hu:Dc n c){dec:List Int}(h:Ck n dec)(hb:(pO c.aS dec).2=false):u7 (pO c.aS dec).1 c.dL.toNat 0=0∨∃f:Nat,u7 (pO c.aS dec).1 c.dL.toNat 0=f∧1≤f∧f≤n∧Ck n (dec++[-(f:Int)])∧Ck n (dec++[(f:Int)]):=by obtain⟨u1,u2,u3⟩:=RC (fun x hx l hl=>(hu.clause x hx).1 l hl) h.1;rcases hu.key _ u1 (u3 hb) with h0|⟨f,f1,f2,f3,f4,f5⟩;exact .inl h0;have h6:=hu.six;refine .inr ⟨f,f1,f2,f3,⟨Ag h.1 oM oM (fun hh=>f5 (u2 _ hh)) (fun hh=>f4 (u2 _ (by simpa using hh))),?_⟩,⟨Ag h.1 oM oM (fun hh=>f4 (u2 _ hh)) (fun hh=>f5 (u2 _ hh)),?_⟩⟩;intro l hl;rcases aO.1 hl with hl|hl;exact h.2 l hl;rw[cO.1 hl];omega;intro l hl;rcases aO.1 hl with hl|hl;exact h.2 l hl;rw[cO.1 hl];omega
structure Fnd where
 fuel:Int
 log:List (List Int)
 aF:List Bool
 found:Bool
def aeQ(dec:List Int)(log:List (List Int)):List (List Int):=log++[(FD (dec.map fun l=>-l)).getD []]
def agw(put:List Int)(dL:Nat):List Bool:=(List.range dL).map fun(i:Nat)=>decide (Zc put ((i:Int)+1)=1)
def acu(c:wo):Nat→List Int→Int→List (List Int)→Fnd
 | 0,_,fu,lg=>⟨fu,lg,[],false⟩
 | d+1,dec,fu,lg=>if fu<1 then⟨fu,lg,[],false⟩ else
   if(pO c.aS dec).2 then⟨fu-1,aeQ dec lg,[],false⟩ else
   let m:=u7 (pO c.aS dec).1 c.dL.toNat 0
   if m=0 then⟨fu-1,lg,agw (pO c.aS dec).1 c.dL.toNat,true⟩ else
   let r:=acu c d (dec++[-m]) (fu-1) lg
   if r.found then r else
   let k:=acu c d (dec++[m]) r.fuel r.log
   if k.found then k else⟨k.fuel,aeQ dec k.log,[],false⟩
def aaK(c:wo):Nat→List Int→Int→Int×Bool
 | 0,_,_=>(1,false)
 | d+1,dec,most=>
   let m:=u7 (pO c.aS dec).1 c.dL.toNat 0
   if(pO c.aS dec).2=true∨m=0∨most<2 then(1,!(pO c.aS dec).2&&decide (m=0)) else
   let r:=aaK c d (dec++[-m]) (most-1)
   if r.2 then(1+r.1,true) else
   if most≤1+r.1 then(1+r.1,false) else
   let k:=aaK c d (dec++[m]) (most-(1+r.1))
   (1+r.1+k.1,k.2)
def agz(c:wo)(n:Nat)(most:Int):Int:=if most<1 then 1 else(aaK c (n+1) [] (most+1)).1
def FK(c:wo)(n:Nat)(fuel:Int):Fnd:=if fuel<agz c n fuel then⟨-1,[],[],false⟩ else acu c (n+1) [] fuel []
def aid(c:wo)(n:Nat):List Bool×List (List Int)×Bool:=
 if O4 c then(if(FK c n 130).found then((FK c n 130).aF,[],true) else
  if(FK c n 130).fuel<0∨(400:Int)<c.aS.length+(FK c n 130).log.length then([],[],false) else([],(FK c n 130).log,true)) else([],[],false)
end Go.Mod
