/-
  What the functions of chapters 10 to 13 compute, in plain Lean: clauses, unit propagation, logs, clause form, papers. No program is walked here.
-/
import Derived.Test.YtphcpjhkeipggaaGreatKBE
import Derived.Lib.SlicesCompact
set_option linter.unusedVariables false
set_option linter.unusedSimpArgs false
open Classical renaming em→aa
open List renaming drop_eq_getElem_cons→ae,getElem?_eq_getElem→af,drop_of_length_le→ak,mem_map→bN,mem_singleton→cO,length_map→cW,getElem?_drop→eV,drop_drop→kH
open Nat renaming zero_le→bo
namespace Go.Mod
open Go.Eng
def Ta(dL:Int):Option Int→List Int→Bool
 | _,[]=>true
 | p,l::ls=>oY l dL&&((match p with|none=>true|some q=>decide (q.natAbs<l.natAbs))&&Ta dL (some l) ls)
def RQ(c:List Int)(dL:Int):Bool:=cK dL 0 60&&Ta dL none c
def O4(c:wo):Bool:=cK c.dL 0 60&&(decide (c.aS.length≤400)&&c.aS.all fun x=>RQ x c.dL)
def aho:List Int→Int→Option (List Int)
 | [],n=>some [n]
 | x::xs,n=>if x.natAbs<n.natAbs then(aho xs n).map (x :: ·) else if x.natAbs=n.natAbs then(if x=n then some (x::xs) else none) else some (n::x::xs)
def abb:List Int→List Int→Option (List Int)
 | out,[]=>some out
 | out,n::ns=>match aho out n with
   | none=>none
   | some o=>abb o ns
def FD(aS:List Int):Option (List Int):=if aS.all fun l=>oY l 60 then abb [] aS else none
def unit(put c:List Int):Int×Bool:=
 if c.any put.contains then(0,false) else match c.filter (fun l=>!put.contains (-l)) with
  | []=>(0,true)
  | [l]=>(l,false)
  | _=>(0,false)
def scan(put:List Int):List (List Int)→Int×Bool
 | []=>(0,false)
 | c::cs=>if(unit put c).2 then(0,true) else if(unit put c).1=0 then scan put cs else((unit put c).1,false)
def yY(aS:List (List Int)):Nat→List Int→List Int×Bool
 | 0,put=>(put,false)
 | n+1,put=>if(scan put aS).2 then(put,true) else if(scan put aS).1=0 then(put,false) else yY aS n (put++[(scan put aS).1])
def pO(aS:List (List Int))(put:List Int):List Int×Bool:=yY aS (61-put.length) put
def aeW(c:wo)(clause:List Int):Bool:=O4 c&&(RQ clause c.dL&&(pO c.aS (clause.map fun l=>-l)).2)
def aeF(dL:Int):List (List Int)→List (List Int)→Bool
 | _,[]=>true
 | aS,x::xs=>aeW ⟨dL,aS⟩ x&&aeF dL (aS++[x]) xs
def agF(c:wo)(log:List (List Int)):Bool:=O4 c&&(decide (log.length≤130)&&(decide (c.aS.length+log.length≤400)&&aeF c.dL c.aS log))
def aea(log:List (List Int)):Bool:=match log.getLast? with|some []=>true|_=>false
def Q3(c:wo)(aS:List Int):wo:=match FD aS with|none=>c|some x=>⟨c.dL,c.aS++[x]⟩
def orC(c:wo)(v a b:Int):wo:=Q3 (Q3 (Q3 c [v,-a]) [v,-b]) [-v,a,b]
def ahW(c:wo)(v a b:Int):wo:=Q3 (Q3 (Q3 (Q3 c [-v,-a,b]) [-v,a,-b]) [v,a,b]) [v,-a,-b]
def ahg(k:Int)(c:wo)(v a b:Int):wo:=if k=3 then orC c (-v) (-a) (-b) else if k=4 then orC c v a b else if k=5 then orC c v (-a) b else ahW c v a b
mutual
def Sg(atoms:List cR):bU→wo→wo×Int
 | .mk k l ks,c=>
   if k=1 then(c,if l.no then -(jG atoms l.aN+1) else jG atoms l.aN+1) else
   if k=2 then((xm atoms ks c).1,-((xm atoms ks c).2.getD 0 0)) else
   (ahg k ⟨(xm atoms ks c).1.dL+1,(xm atoms ks c).1.aS⟩ ((xm atoms ks c).1.dL+1) ((xm atoms ks c).2.getD 0 0) ((xm atoms ks c).2.getD 1 0),(xm atoms ks c).1.dL+1)
def xm(atoms:List cR):List bU→wo→wo×List Int
 | [],c=>(c,[])
 | t::ts,c=>((xm atoms ts (Sg atoms t c).1).1,(Sg atoms t c).2::(xm atoms ts (Sg atoms t c).1).2)
end
def aeD(atoms:List cR):List bU→wo→wo
 | [],c=>c
 | f::fs,c=>aeD atoms fs (Q3 (Sg atoms f c).1 [(Sg atoms f c).2])
def afQ:wo:=⟨0,[]⟩
def Cw(aS:List bU):wo:=match fc aS with|none=>afQ|some atoms=>aeD atoms aS ⟨atoms.length,[]⟩
def vK(c:wo):List nY→wo
 | []=>c
 | l::ls=>vK (Q3 c (l.marks.map fun m=>-m)) ls
def aa4(aS:List bU)(p:Kw):wo:=match fc aS with
 | none=>afQ
 | some atoms=>if decide (p.FW.length≤64)&&p.FW.all (fun l=>gf l.marks atoms.length) then vK (Cw aS) p.FW else afQ
def ad2(s:eM)(aS:List bU)(p:Kw):Bool:=
 hH s aS&&(decide (p.FW.length≤64)&&(p.FW.all (yT s aS)&&(agF (aa4 aS p) p.log&&aea p.log)))
def tP(f:bU):bU:=.mk 2 Gq [f]
def ahq(s:eM)(aS:List bU)(f:bU)(p:Kw):Bool:=ad2 s (aS++[tP f]) p
def Inc(l:List Int):Prop:=l.Pairwise fun a b=>a.natAbs<b.natAbs
def Fair(l:List Int):Prop:=∀x∈l,-x∉l
def ins(l:List Int)(n:Int):List Int:=(l.filter fun x=>decide (x.natAbs≤n.natAbs))++n::l.filter fun x=>decide (n.natAbs<x.natAbs)
def air(l:List Int):List Int:=l.foldl ins []
def Srt(l:List Int):Prop:=l.Pairwise fun a b=>a.natAbs≤b.natAbs
def compact:List Int→List Int
 | []=>[]
 | [x]=>[x]
 | x::y::l=>if x=y then compact (y::l) else x::compact (y::l)
def zK(put:List Int):Prop:=put.Pairwise (fun a b=>a.natAbs≠b.natAbs)∧∀x∈put,x≠0∧x.natAbs≤60
theorem aen{put:List Int}(h:zK put):put.length≤60:=by
 have h1:=J6 60 (put.map fun m=>m.natAbs-1) (by
  rw[List.pairwise_map];refine List.Pairwise.imp_of_mem ?_ h.1;intro a b ha hb hab e;have:=h.2 a ha;have:=h.2 b hb;exact hab oM) (fun x hx=>by
  obtain⟨m,hm,rfl⟩:=bN.1 hx;have:=h.2 m hm;omega)
 rwa [cW] at h1
theorem Ag{put:List Int}{l:Int}(h:zK put)(h0:l≠0)(h1:l.natAbs≤60)(h2:l∉put)(h3:-l∉put):zK (put++[l]):=by refine⟨List.pairwise_append.2 ⟨h.1,List.pairwise_singleton _ _,fun a ha b hb=>?_⟩,fun x hx=>?_⟩;rw[cO.1 hb];intro e;rcases Int.natAbs_eq_natAbs_iff.1 e with e|e;exact h2 (by rw[←e];exact ha);exact h3 (by rw[←e];exact ha);rcases List.mem_append.1 hx with hx|hx;exact h.2 x hx;rw[cO.1 hx];exact⟨h0,h1⟩
theorem aa5{put c:List Int}(h:(unit put c).1≠0):(unit put c).2=false∧(unit put c).1∈c∧(unit put c).1∉put ∧ -(unit put c).1∉put:=by
 unfold unit at h⊢;split at h;exact absurd rfl h;rename_i ha;rw[if_neg ha];split at h;exact absurd rfl h;rename_i l hl;have hm:l∈c.filter (fun l=>!put.contains (-l)):=by rw[hl];simp
 obtain⟨m1,m2⟩:=List.mem_filter.1 hm;refine⟨rfl,m1,fun hh=>ha (List.any_eq_true.2 ⟨l,m1,List.contains_iff_mem.2 hh⟩),fun hh=>?_⟩;simp at m2;exact m2 hh;exact absurd rfl h
theorem SC{put:List Int}:∀{aS:List (List Int)},(scan put aS).1≠0→∃c∈aS,(scan put aS).1∈c∧(scan put aS).1∉put ∧ -(scan put aS).1∉put
 | [],h=>absurd rfl h
 | c::cs,h=>by rcases aa ((unit put c).2=true) with h1|h1;simp only[scan,h1,if_true] at h;exact absurd rfl h;rcases aa ((unit put c).1=0) with h2|h2;simp only[scan,h1,h2,if_true,if_false] at h⊢;obtain⟨d,hd,hh⟩:=SC h;exact⟨d,List.mem_cons_of_mem _ hd,hh⟩;simp only[scan,h1,h2,if_false];obtain⟨_,q⟩:=aa5 h2;exact⟨c,by simp,q⟩
def Vs(put:List Int):List Int→Int→Int→Int×Int
 | [],n,left=>(n,left)
 | l::ls,n,left=>if Zc put l=1 then(2,0) else if Zc put l=0 then Vs put ls (n+1) (if n=0 then l else left) else Vs put ls n left
def left(put c:List Int):Int×Int:=Vs put c 0 0
theorem Tl{marks:List Int}{dL:Nat}(h:gf marks dL=true)(hm1:dL≤6):marks.length≤12:=by
 have hmem:=n5 h
 have hp:=(yN (dL:=dL) (before:=[]) h).1
 have h1:=J6 12 (marks.map fun m=>if m<0 then(m+6).toNat else(m+5).toNat) (by
  rw[List.pairwise_map];refine List.Pairwise.imp_of_mem ?_ hp;intro a b ha hb hab e;have:=hmem a ha;have:=hmem b hb;split at e<;>split at e<;>exact hab oM) (fun x hx=>by
  obtain⟨m,hm,rfl⟩:=bN.1 hx;have:=hmem m hm;split<;>omega)
 rwa [cW] at h1
mutual
def aax:bU→List bU
 | .mk k l ks=>if k=1 then [] else if k=2 then Pp ks else Pp ks++[.mk k l ks]
def Pp:List bU→List bU
 | []=>[]
 | t::ts=>aax t++Pp ts
end
set_option maxRecDepth 100000
def aeO:Nat→Int→pL→pL
 | 0,_,s=>s
 | n+1,k,s=>if 0<k then aeO n (k.tdiv 10) (UInt8.ofNat (48+k.tmod 10).toNat::s) else s
def ZS(k:Int):pL:=if k≤0 then [109,48] else 109::aeO 20 k []
def HY{α:Type}(f:α→Int→α×Int):List α→Int→List α×Int
 | [],k=>([],k)
 | x::xs,k=>((f x k).1::(HY f xs (f x k).2).1,(HY f xs (f x k).2).2)
theorem Xs{α:Type}(f:α→Int→α×Int):∀(xs:List α)(k:Int),(HY f xs k).1.length=xs.length
 | [],_=>rfl
 | x::xs,k=>by simp[HY,Xs f xs]
def Mk{α:Type}(f:α→Int→α×Int)(ts:List α)(k:Int)(i:Nat)(zs:List α)(k':Int):Prop:=
 zs.length=ts.length∧i≤ts.length∧zs.drop i=ts.drop i∧HY f ts k=(zs.take i++(HY f (ts.drop i) k').1,(HY f (ts.drop i) k').2)
theorem Mk.zero{α:Type}(f:α→Int→α×Int)(ts:List α)(k:Int):Mk f ts k 0 ts k:=⟨rfl,bo _,rfl,by simp⟩
theorem Mk.len{α:Type}{f:α→Int→α×Int}{ts zs:List α}{k k':Int}{i:Nat}(h:Mk f ts k i zs k'):zs.length=ts.length:=h.1
theorem Mk.at{α:Type}{f:α→Int→α×Int}{ts zs:List α}{k k':Int}{i:Nat}(h:Mk f ts k i zs k')(hi:i<ts.length):zs[i]'(by rw[h.1];exact hi)=ts[i]:=by
 have h1:zs.drop i=ts.drop i:=h.2.2.1;have e:(zs.drop i)[0]?=(ts.drop i)[0]?:=by rw[h1]
 rw[eV,eV,Nat.add_zero,af hi,af (by rw[h.1];exact hi)] at e;exact Option.some.inj e
theorem Mk.step{α:Type}{f:α→Int→α×Int}{ts zs:List α}{k k':Int}{i:Nat}(h:Mk f ts k i zs k')(hi:i<ts.length):Mk f ts k (i+1) (zs.set i (f ts[i] k').1) (f ts[i] k').2:=by
 obtain⟨h1,h2,h3,h4⟩:=h;have hd:ts.drop i=ts[i]::ts.drop (i+1):=ae hi;refine⟨by simpa using h1,hi,?_,?_⟩;rw[List.drop_set_of_lt oM];have e1:zs.drop (i+1)=(zs.drop i).drop 1:=by rw[kH]
 have e2:ts.drop (i+1)=(ts.drop i).drop 1:=by rw[kH]
 rw[e1,e2,h3];rw[h4,hd];simp only[HY];have e:(zs.set i (f ts[i] k').1).take (i+1)=zs.take i++[(f ts[i] k').1]:=by rw[List.take_add_one,List.take_set_of_le (Nat.le_refl i),List.getElem?_set_self oM];rfl
 rw[e];simp
theorem Mk.all{α:Type}{f:α→Int→α×Int}{ts zs:List α}{k k':Int}{i:Nat}(h:Mk f ts k i zs k')(hi:ts.length≤i):HY f ts k=(zs,k'):=by obtain⟨h1,h2,h3,h4⟩:=h;rw[h4,ak hi,List.take_of_length_le oM];simp[HY]
def mkI(n:Int)(k:Int):Int×Int:=(k,k+1)
mutual
def mkT:ax→Int→ax×Int
 | .mk _ ks,k=>(.mk (ZS k) (ab5 ks (k+1)).1,(ab5 ks (k+1)).2)
def ab5:List ax→Int→List ax×Int
 | [],k=>([],k)
 | t::ts,k=>((mkT t k).1::(ab5 ts (mkT t k).2).1,(ab5 ts (mkT t k).2).2)
end
def ZO(s:Sym)(k:Int):Sym×Int:=(⟨ZS k,(HY mkI s.args (k+1)).1,(HY mkI s.args (k+1)).2⟩,(HY mkI s.args (k+1)).2+1)
def mkAtom(a:cR)(k:Int):cR×Int:=
 let A:=mkT a.A (k+1)
 let B:=mkT a.B A.2
 let N:=ab5 a.ai B.2
 let I:=HY mkI a.a8 N.2
 (⟨k,A.1,B.1,N.1,I.1,I.2,decide ((I.2+1).tmod 3=0)⟩,I.2+1+1)
def mkLit(l:bL)(k:Int):bL×Int:=(⟨(mkAtom l.aN k).1,decide ((mkAtom l.aN k).2.tmod 3=0)⟩,(mkAtom l.aN k).2+1)
mutual
def VB:bU→Int→bU×Int
 | .mk _ l ks,k=>(.mk k (mkLit l (k+1)).1 (B8 ks (mkLit l (k+1)).2).1,(B8 ks (mkLit l (k+1)).2).2)
def B8:List bU→Int→List bU×Int
 | [],k=>([],k)
 | t::ts,k=>((VB t k).1::(B8 ts (VB t k).2).1,(B8 ts (VB t k).2).2)
end
def ahw(s:ZQ)(k:Int):ZQ×Int:=(⟨⟨(HY ZO s.sig.cQ k).1⟩,(HY B8 s.Wf (HY ZO s.sig.cQ k).2).1⟩,(HY B8 s.Wf (HY ZO s.sig.cQ k).2).2)
mutual
def ctT:ax→Nat
 | .mk _ ks=>1+afK ks
def afK:List ax→Nat
 | []=>0
 | t::ts=>ctT t+afK ts
end
def ail(s:Sym):Nat:=s.args.length+2
def agY(l:bL):Nat:=ctT l.aN.A+ctT l.aN.B+afK l.aN.ai+l.aN.a8.length+4
mutual
def afs:bU→Nat
 | .mk _ l ks=>1+agY l+XE ks
def XE:List bU→Nat
 | []=>0
 | t::ts=>afs t+XE ts
end
def ctL{α:Type}(c:α→Nat):List α→Nat
 | []=>0
 | x::xs=>c x+ctL c xs
def Hd{α:Type}(f:α→Int→α×Int)(ts zs:List α)(k:Int)(i:Nat)(q:Int):Prop:=
 zs.length=ts.length∧i≤ts.length∧zs.drop i=(HY f (ts.drop i) q).1∧(HY f ts k).2=(HY f (ts.drop i) q).2
theorem Hd.zero{α:Type}(f:α→Int→α×Int)(ts:List α)(k:Int):Hd f ts (HY f ts k).1 k 0 k:=⟨Xs f ts k,bo _,by simp,by simp⟩
theorem Hd.at{α:Type}{f:α→Int→α×Int}{ts zs:List α}{k q:Int}{i:Nat}(h:Hd f ts zs k i q)(hi:i<ts.length):zs[i]'(by rw[h.1];exact hi)=(f ts[i] q).1:=by have h1:=h.2.2.1;rw[ae hi,ae (by rw[h.1];exact hi)] at h1;simp only[HY] at h1;exact(List.cons.inj h1).1
theorem Hd.step{α:Type}{f:α→Int→α×Int}{ts zs:List α}{k q:Int}{i:Nat}(h:Hd f ts zs k i q)(hi:i<ts.length):Hd f ts zs k (i+1) (f ts[i] q).2:=by obtain⟨h1,h2,h3,h4⟩:=h;rw[ae hi] at h3 h4;rw[ae (by rw[h1];exact hi)] at h3;simp only[HY] at h3 h4;exact⟨h1,hi,(List.cons.inj h3).2,h4⟩
theorem Hd.all{α:Type}{f:α→Int→α×Int}{ts zs:List α}{k q:Int}{i:Nat}(h:Hd f ts zs k i q)(hi:ts.length≤i):(HY f ts k).2=q:=by rw[h.2.2.2,ak hi];rfl
end Go.Mod
