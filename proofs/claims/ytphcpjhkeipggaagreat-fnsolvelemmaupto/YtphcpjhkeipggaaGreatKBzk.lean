/-
  The program: the search, where nothing can be found. A step towards the laws.
-/
import Derived.Test.YtphcpjhkeipggaaGreatKBl
import Derived.Shelf.Spec.SlicesGrow
import Derived.Laws.IdiomCopy
import Derived.Deep.Draws
import Derived.Test.YtphcpjhkeipggaaGreatKBEp
import Derived.Test.YtphcpjhkeipggaaGreatKBzj
set_option linter.unusedVariables false
set_option linter.unusedSimpArgs false
open Int renaming reduceEq→Z1,reduceLT→Z2,reduceLE→Z3,reduceToNat→Z4
open And renaming intro→an
open Bool renaming false_eq_true→au,true_and→aA
open Classical renaming em→aa
open List renaming take_add_one→bz,take_succ_cons→dv,drop→fB,length_filter_le→fH,filter_cons→fP,mem_filter→gy,drop_drop→kH
namespace Go.Proofs.YtphcpjhkeipggaaGreat
open Go.Eng Go.Mod
set_option maxRecDepth 100000
set_option maxHeartbeats 3200000
theorem Gr:C E.P 60 [.bW] [] (jF (.aX 0) [some (.aX 3 (bm []))]):=by refine gS 8 [.tmp 2] hm Tryz.func60 fun hl he cf=>?_;refine D9 3 _ true rfl rfl (by simp -implicitDefEqProofs only[go_sem]) F5 ?_;refine sA ?_;refine bX [none] ?_ rfl rfl;exact sC
theorem Ny(ns:List Int)(hl1:ns.length≤1000):C E.P 60 [lv (bm ns)] [] (jF (.aX 0) [some (.aX 3 (bm ns))]):=by
 cases ns with
 | nil=>exact Qf Gr Hi
 | cons x xs=>exact IY (x::xs) (by simp) hl1
def vF(put:List Int)(m v:Nat):List Bool:=List.replicate v false++(aeS put m).drop v
theorem vZ(m k:Int):CN 62 [iv k,.ib [[.val (.int .i64 m)]] 0 0] (bv (!DT m k)):=by
 have e:(!DT m k)=decide (k=m):=by simp[DT]
 rw[e];refine gS 7 [.tmp 3] hm Tryz.func62 fun hl he cf=>?_;refine fD ?_;exact sC
theorem H3{p:Int→Bool}:∀{xs:List Int}{i:Int},0≤i→(fj p xs i = -1∧xs.filter (fun t=>!p t)=xs)∨∃j:Nat,fj p xs i=i+j∧j<xs.length∧(xs.take (j+1)).filter (fun t=>!p t)=xs.take j
 | [],i,_=>.inl (by simp[fj])
 | x::xs,i,h=>by
  simp only[fj];cases hx:p x with
  | true=>refine .inr ⟨0,?_,by simp,by simp[hx]⟩;simp
  | false=>simp only[au,if_false];rcases H3 (p:=p) (xs:=xs) (i:=i+1) oM with⟨h1,h2⟩|⟨j,h1,h2,h3⟩;exact .inl ⟨h1,by simp[hx,h2]⟩;refine .inr ⟨j+1,by rw[h1];omega,by simp;omega,?_⟩;rw[dv,fP,dv,h3];simp[hx]
theorem Fe(m0:Int)(xs:List Int)(hl1:xs.length≤10000):C E.P 61 [.aX 0,.fn 62 [.bA 1 0]] [some (.aX 3 (bm xs)),some (.box [iv m0])] (jF (lv (bm (xs.filter (DT m0)))) [some .dead,some (.box [iv m0])]):=by
 have cf:LB=1099511627776:=rfl;refine Ic (nt:=42) (rs:=[.tmp 4]) Tryz.func61 rfl rfl rfl rfl rfl (fun hl he=>?_);simp -implicitDefEqProofs only[go_sem] at hl he⊢;refine fE (jm hm ?_);simp -implicitDefEqProofs only[go_sem,e6,eX];refine fE (jm hm ?_);refine sA ?_;refine qj [] [0,1] (zS 62 [.ib [[.val (.int .i64 m0)]] 0 0] rfl (fun t=>!DT m0 t) xs (fun t _=>vZ m0 t)) rfl ?_ ?_ ?_;exact sV;all_goals simp -implicitDefEqProofs only[go_sem]
 rcases H3 (p:=fun t=>!DT m0 t) (xs:=xs) (i:=0) oM with⟨h1,h2⟩|⟨j0,h1,h2,h3⟩
 ·have e:idxOf (fun t=>!DT m0 t) xs = -1:=h1;rw[e];refine fE (jm hm ?_);simp -implicitDefEqProofs only[go_sem,e6,zu];refine⟨_,GG 4 0 3 (bm xs) rfl rfl,?_⟩;have e2:xs.filter (DT m0)=xs:=(by simpa using h2);rw[e2];refine bX kR ?_ rfl rfl;refine sA ?_;all_goals simp
 have e:idxOf (fun t=>!DT m0 t) xs=(j0:Int):=by rw[idxOf,h1];omega
 rw[e];have n1:¬ (j0:Int) = -1:=oM;refine fE (jm hm ?_);simp -implicitDefEqProofs only[go_sem,e6,eX,n1];refine fE (jm hm ?_);refine sA ?_;refine sQ ?_;refine n6 hm (fun(i:Nat) (j:Nat) (a:List Int)=> i≤j∧j≤xs.length∧a.length=xs.length∧a.take i=(xs.take j).filter (DT m0)∧a.drop j=xs.drop j) (fun(i:Nat) (j:Nat) (a:List Int)=> ⟨dN 42 .any [(0,.aX 0),(1,.fn 62 [.bA 1 0]),(5,iv i),(6,iv j)],[some (.aX 3 (bm a)),some (.box [iv m0])]⟩) (fun(i:Nat) (j:Nat) (a:List Int)=> xs.length-j) (j0) (j0+1) (xs) ?_ (aZ kR ?_ ?_ rfl rfl) ?_;rotate_left;exact sC;exact sC;rotate_left;exact⟨oM,oM,rfl,by simpa using h3.symm,rfl⟩;rintro i j a ⟨hij,hj,hal,ht,hd⟩;rcases aa (j<xs.length) with h1|h1
 ·have h1a:j<a.length:=oM;have hia:i<a.length:=oM;have hx:a[j]=xs[j]:=(by have h4:(a.drop j)[0]?=(xs.drop j)[0]?:=(by rw[hd]);simpa[h1,h1a] using h4);have hf:(xs.take (j+1)).filter (DT m0)=(xs.take j).filter (DT m0)++(if DT m0 xs[j] then [xs[j]] else []):=(by rw[bz,List.getElem?_eq_getElem h1,List.filter_append];congr 1;simp[fP]);simp -implicitDefEqProofs only[go_sem,h1a];refine qj [.bA 1 0] [1] (vZ m0 a[j]) rfl ?_ ?_ ?_;exact sV;all_goals simp -implicitDefEqProofs only[go_sem]
  rw[hx];cases h4:DT m0 xs[j]
  ·rw[h4] at hf;refine sA ?_;refine an oM ?_;refine⟨i,j+1,a,?_,sL,aZ kR ?_ ?_ rfl rfl⟩;rotate_left;exact sC;exact sC;refine⟨oM,oM,hal,by rw[hf,ht];simp,?_⟩;have h5:=congrArg (fB 1) hd;simpa[kH] using h5
  rw[h4] at hf;simp -implicitDefEqProofs only[go_sem,hia];have hset:(bm a).set i (wm [D.val (.int .i64 a[i])] 0 [D.val (.int .i64 xs[j])])=bm (a.set i xs[j]):=(by rw[bm,bm,List.map_set];rfl);refine an oM (an oM ?_);refine⟨i+1,j+1,a.set i xs[j],?_,sL,aZ kR ?_ ?_ rfl rfl⟩;rotate_left;exact sC
  ·refine sA ?_;all_goals(exact hset)
  refine⟨oM,oM,by simp[hal],?_,?_⟩;rw[hf,←ht,bz];simp[hia,List.take_set_of_le];have h5:=congrArg (fB 1) hd;rw[List.drop_set_of_lt oM];simpa[kH] using h5
 simp -implicitDefEqProofs only[go_sem,h1,hal];try simp only[e6,eX]
 have hjn:j=xs.length:=oM;refine fE (pR ?_);refine wR (IJ.plain rfl (ET _)) (wR (IJ.plain rfl (ET _)) ?_);refine sA ?_;refine abj (t:=27) (e:=3) (k:=0) (m:=(i:Int)) (xs:=bm a) [.val (.int .i64 0)] _ _ rfl rfl rfl rfl ?_ ?_ ?_ oM (by rw[oe];omega) ?_ ?_;exact sC;exact sC;exact sC;simp only[B3];omega;refine xp ?_;simp -implicitDefEqProofs only[go_sem,eX];refine jm hm ?_;refine sA ?_;refine gm (WN (.tmp 39) (.tmp 40) 27 3 0 _ _ (Rv [.val (.int .i64 0)] (bm a) i) (i:Int) rfl rfl rfl ?_ ?_ ?_ oM (by rw[Xg _ _ _ (by rw[oe];omega),oe];omega)) ?_;exact sC;exact sC;exact sC;simp -implicitDefEqProofs only[go_sem,e6];refine fI ?_;refine bX kR ?_ rfl rfl;refine sA ?_;rw[S4 _ _ _ (by rw[oe];omega),vr,ht,hjn,List.take_length]
theorem GJ(s:eM)(atoms:List cR)(marks:List Int)(c:eJ)(h6:atoms.length≤6)(hl6:marks.length≤6)(kI:∀m∈marks,m≠0 ∧ -(atoms.length:Int)≤m∧m≤atoms.length) :
 CN 28 [av (eP s),lv (bx atoms),lv (bm marks),av (iL c)] (av (qX (wx s atoms marks ⟨marks,c⟩))):=by
 refine gS 51 [.cell 8 40] hm Tryz.func28 fun hl he cf=>?_
 refine aC [] (Bd marks oM) ?_
 refine iK ?_
 refine jI hm (fun(i:Nat) (l:Mod.nY)=> i≤marks.length∧(∀m∈l.marks,m∈marks)∧l.marks.length≤marks.length∧wx s atoms marks ⟨marks,c⟩=wx s atoms (marks.drop i) l) (fun(i:Nat) (l:Mod.nY)=> ⟨dN 51 .any [(1,lv (bx atoms)),(4,.bA 0 0),(8,.bA 1 0),(9,.bA 2 0),(20,lv (bm marks)),(21,iv marks.length),(22,iv i)],[some (.box (dm (eP s))),some (.box [.bW,iv 0,iv 0,iv 0,iv 0,sv [],.bW,.bW,.bW,sv [],.bW,sv [],.bW,.bW]),some (.box (dm (qX l)))]⟩) (fun(i:Nat) (l:Mod.nY)=> marks.length-i) (0) (⟨marks,c⟩) ?_ (aZ [some 0,some 2,some 3] ?_ ?_ rfl rfl) ?_
 rotate_left
 ·exact sC
 ·exact sC
 rotate_left
 ·exact⟨oM,fun _ h=>h,Nat.le_refl _,rfl⟩
 ·rintro i l ⟨hi,hm1,hm2,hg⟩
  rcases aa (i<marks.length) with h1|h1
  ·rw[Yk h1] at hg
   rcases aa (l.marks.length=1) with h2|h2
   ·rw[if_pos h2] at hg
    rw[hg]
    have k2:((l.marks.length:Nat):Int)=1:=oM
    have k2':=eq_true k2
    simp -implicitDefEqProofs only[go_sem,h1,k2']
    refine fD ?_
    exact sC
   ·rw[if_neg h2] at hg
    have k2:¬ ((l.marks.length:Nat):Int)=1:=oM
    have cs:=tW (l.marks.filter (DT marks[i])) atoms oM (fun m hm=>kI m (hm1 m (gy.1 hm).1)) (by have:=fH (DT marks[i]) l.marks;omega)
    have cr:=AW Tk s (cH (l.marks.filter (DT marks[i])) atoms)
    generalize eh s (cH (l.marks.filter (DT marks[i])) atoms)=r at hg cr
    simp -implicitDefEqProofs only[go_sem,h1,k2]
    refine oC [] [4] (Ny l.marks oM) ?_
    refine lx [] [4,3] (Fe marks[i] l.marks oM) ?_ ?_
    ·refine sA ?_
     first|rfl|((repeat' apply an)<;>rfl)
    refine sA ?_
    refine aC [] cs ?_
    refine aC [] cr ?_
    refine iK ?_
    rcases aa (r.code=1) with h3|h3
    ·have k3:=eq_true h3
     rw[if_pos h3] at hg
     simp -implicitDefEqProofs only[go_sem,k3]
     refine sQ ?_
     refine⟨i+1,⟨l.marks.filter (DT marks[i]),r.case⟩,?_,sL,aZ rC ?_ ?_ rfl rfl⟩
     rotate_left
     ·exact sC
     ·exact sC
     exact⟨oM,fun m hm=>hm1 m (gy.1 hm).1,Nat.le_trans (fH _ _) hm2,hg⟩
    ·rw[if_neg h3] at hg
     refine uC ?_
     refine sQ ?_
     refine⟨i+1,l,?_,sL,aZ rC ?_ ?_ rfl rfl⟩
     rotate_left
     ·exact sC
     ·exact sC
     exact⟨oM,hm1,hm2,hg⟩
  ·rw[List.drop_of_length_le oM,wx] at hg
   rw[hg]
   refine uA ?_
   refine fD ?_
   exact sC
theorem EF(s:eM)(aS:List Mod.bU)(marks:List Int):CN 7 [av (eP s),lv (cG aS),lv (bm marks)] (.iZ [av (qX (oK s aS marks).1),bv (oK s aS marks).2]):=by
 have c1:=re aS;have c2:=Bw s aS;unfold oK;cases fy:hH s aS
 ·rw[fy] at c2;simp only[Bool.false_and,au,if_false];refine gT 46 [.cell 6 40,.tmp 7] hm Tryz.func7 fun hl he cf=>?_;refine aD [] c1 ?_;refine sI ?_;refine aD [] c2 ?_;refine sI ?_;try simp -implicitDefEqProofs only[go_sem,Z1,Z2,Z3,Z4]
  refine sI ?_;refine oW ?_;all_goals((repeat' apply an)<;>rfl)
 rw[fy] at c2;obtain⟨f3,f4⟩:=CT fy;rw[f4] at c1⊢;simp only[Option.getD_some,Option.isSome_some] at c1⊢;generalize ba [] aS=atoms at f3 c1⊢;have c3:=vP marks atoms oM;cases hs:gf marks atoms.length
 ·rw[hs] at c3;simp only[aA,au,if_false];refine gT 46 [.cell 6 40,.tmp 7] hm Tryz.func7 fun hl he cf=>?_;refine aD [] c1 ?_;refine sI ?_;refine aD [] c2 ?_;refine sI ?_;refine aD [] c3 ?_;refine sI ?_;try simp -implicitDefEqProofs only[go_sem,Z1,Z2,Z3,Z4]
  refine sI ?_;refine oW ?_;all_goals((repeat' apply an)<;>rfl)
 rw[hs] at c3;have kI:=n5 hs;have h12:=Tl hs f3;have c4:=tW marks atoms oM kI oM;have c5:=AW Tk s (cH marks atoms);obtain⟨R,hR⟩:∃r,eh s (cH marks atoms)=r:=⟨_,rfl⟩;have hb6:R.code=1→marks.length≤6:=fun h=>by
  rw[←hR] at h;have hb:gn s (cH marks atoms)=true:=by
   cases hb:gn s (cH marks atoms) with
   | true=>rfl
   | false=>rw[OB.2 hb] at h;cases h
  have:=(xS hb).2.2.2.1;simpa[cH] using this
 rw[hR] at c5⊢;simp only[aA,if_true];refine gT 46 [.cell 6 40,.tmp 7] hm Tryz.func7 fun hl he cf=>?_;refine aD [] c1 ?_;refine sI ?_;refine aD [] c2 ?_;refine sI ?_;refine aD [] c3 ?_;refine sI ?_;try simp -implicitDefEqProofs only[go_sem,Z1,Z2,Z3,Z4]
 refine sI ?_;refine aD [] c4 ?_;refine sI ?_;refine aD [] c5 ?_;refine sI ?_;try simp -implicitDefEqProofs only[go_sem,Z1,Z2,Z3,Z4]
 refine sI ?_;rcases aa (R.code=1) with h1|h1
 ·have k1:=eq_true h1;simp only[if_pos h1];have c6:=GJ s atoms marks R.case f3 (hb6 h1) kI;try simp -implicitDefEqProofs only[go_sem,Z1,Z2,Z3,Z4,k1]
  refine sI ?_;refine aD [] c6 ?_;refine sI ?_;refine fD ?_;simp -implicitDefEqProofs only[go_sem,Z1,Z2,Z3,Z4];all_goals((repeat' apply an)<;>rfl)
 simp only[if_neg h1];try simp -implicitDefEqProofs only[go_sem,Z1,Z2,Z3,Z4,h1]
 refine sI ?_;refine oW ?_;all_goals((repeat' apply an)<;>rfl)
end Go.Proofs.YtphcpjhkeipggaaGreat
