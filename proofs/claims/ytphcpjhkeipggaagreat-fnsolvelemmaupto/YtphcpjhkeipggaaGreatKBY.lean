/-
  The law FnSolveLemma, walked: whatever it is given, it answers yes. A step towards the law.
-/
import Derived.Test.YtphcpjhkeipggaaGreatKBzl
import Derived.Test.YtphcpjhkeipggaaGreatKBzk
set_option linter.unusedVariables false
set_option linter.unusedSimpArgs false
open Int renaming reduceEq→Z1,reduceLT→Z2,reduceLE→Z3,reduceToNat→Z4
open Classical renaming em→aa
open List renaming drop_eq_getElem_cons→ae
namespace Go.Proofs.YtphcpjhkeipggaaGreat
open Go.Eng Go.Mod
set_option maxRecDepth 100000
set_option maxHeartbeats 3200000
theorem Dj(a:List Int):CN 9 [lv (bm a),lv (bm a)] (bv true):=by
 refine gT 26 [.tmp 4] hm Tryz.func9 fun hl he cf=>?_;refine cS hm (fun(i:Nat)=> i≤a.length) (fun(i:Nat)=> ⟨dN 26 .any [(0,lv (bm a)),(1,lv (bm a)),(5,iv i)],[]⟩) (fun(i:Nat)=> a.length-i) (0) ?_ (aZ [] ?_ ?_ rfl rfl) ?_;rotate_left
 ·refine sB ?_;all_goals(try exact sM)
 ·refine sB ?_;all_goals(try exact sM)
 rotate_left;omega;rintro i hi;rcases aa (i<a.length) with h1|h1
 ·(try simp -implicitDefEqProofs only[go_sem,Z1,Z2,Z3,Z4,h1]);refine sJ ?_;refine⟨i+1,?_,sL,aZ [] ?_ ?_ rfl rfl⟩;rotate_left
  ·refine sB ?_;all_goals(try exact sM)
  ·refine sB ?_;all_goals(try exact sM)
  exact h1
 try simp -implicitDefEqProofs only[go_sem,Z1,Z2,Z3,Z4,h1]
 refine sI ?_;refine oW ?_;all_goals(first|done|(simp;done)|(simp;omega)|skip)
theorem abB{x y:Int}{a b:List Int}(h:(x::a).Sublist (y::b)):(y=x→a.Sublist b)∧(y≠x→(x::a).Sublist b):=by
 cases h with
 | cons _ h=>exact⟨fun _=>(List.sublist_cons_self x a).trans h,fun _=>h⟩
 | cons_cons _ h=>exact⟨fun _=>h,fun h2=>absurd rfl h2⟩
theorem Gc(b:List Int)(hb:∀x∈b,0≤x∧x≤255):CN 3 [lv (Zn b)] (bv true):=by
 refine gT 111 [.tmp 2] hm Tryz.func3 fun hl he cf=>?_;rcases aa ((1048576:Int)<(b.length:Int)) with h0|h0
 ·(try simp -implicitDefEqProofs only[go_sem,Z1,Z2,Z3,Z4,h0]);refine sI ?_;refine oW ?_;all_goals(first|done|(simp;done)|(simp;omega)|skip)
 have cD:=z7 b hb oM;have hN:eY (wZ (b.take 2000)).2.1≤900:=(QO (V3 hb) (p:=0) oM).2.2.1;have hM:(wZ (b.take 2000)).2.2.length≤1000:=by have h1:=(QO (V3 hb) (p:=0) oM).2.2.1;have hw:=lD (xR (b.take 2000) 0).2.1 [];simp only[List.length_nil] at hw;simp only[wZ];split<;>simp only[List.length_append,Dw,List.length_singleton]<;>omega
 generalize wZ (b.take 2000)=g at cD hN hM;obtain⟨s,aS,marks⟩:=g;simp only at cD hN hM;have c1:=EF s aS marks;have c2:=EJ s aS marks oM;have fy:=TD (s:=s) (aS:=aS) (marks:=marks);generalize oK s aS marks=r at c1 c2 fy;obtain⟨l,ok⟩:=r;simp only at c1 c2 fy;have cw:=Dj l.marks;have cc:=Ir l.case l.case;rw[decide_eq_true rfl] at cc;try simp -implicitDefEqProofs only[go_sem,Z1,Z2,Z3,Z4,h0]
 refine sI ?_;refine aD [] cD ?_;refine sI ?_;try simp -implicitDefEqProofs only[go_sem,Z1,Z2,Z3,Z4]
 refine sI ?_;refine aD [] c1 ?_;refine sI ?_;try simp -implicitDefEqProofs only[go_sem,Z1,Z2,Z3,Z4]
 refine sI ?_;refine aD [] c2 ?_;refine sI ?_;try simp -implicitDefEqProofs only[go_sem,Z1,Z2,Z3,Z4]
 refine sI ?_;cases ok
 ·(try simp -implicitDefEqProofs only[go_sem,Z1,Z2,Z3,Z4]);refine sI ?_;refine aD [] cw ?_;refine sI ?_;refine aD [] cc ?_;refine sI ?_;try simp -implicitDefEqProofs only[go_sem,Z1,Z2,Z3,Z4]
  refine sI ?_;refine aD [] cw ?_;refine sI ?_;refine aD [] cc ?_;refine sW ?_;refine fD ?_;simp -implicitDefEqProofs only[go_sem,Z1,Z2,Z3,Z4];all_goals(first|done|(simp;done)|(simp;omega)|skip)
 obtain⟨k1,k2⟩:=fy rfl;have hL:=k2.length_le;have cl:=Mu s aS l;rw[k1] at cl;try simp -implicitDefEqProofs only[go_sem,Z1,Z2,Z3,Z4]
 refine sW ?_;refine dy [] cw ?_ ?_<;>simp -implicitDefEqProofs only[go_sem,Z1,Z2,Z3,Z4];refine sW ?_;refine dy [] cc ?_ ?_<;>simp -implicitDefEqProofs only[go_sem,Z1,Z2,Z3,Z4];refine sW ?_;try simp -implicitDefEqProofs only[go_sem,Z1,Z2,Z3,Z4]
 refine sW ?_;have hfin:CN 11 [av (eP s),lv (cG aS),av (qX l)] (bv true):=cl;refine jI hm (fun(i:Nat) (k:Nat)=> i≤marks.length∧k≤l.marks.length∧(l.marks.drop k).Sublist (marks.drop i)) (fun(i:Nat) (k:Nat)=> ⟨dN 111 .any [(3,.bA 0 0),(4,lv (cG aS)),(5,lv (bm marks)),(6,.bA 1 0),(10,iv k),(11,iv i)],[some (.box (dm (eP s))),some (.box (dm (qX l))),some (.box (dm (qX l)))]⟩) (fun(i:Nat) (k:Nat)=> marks.length-i) (0) (0) ?_ (aZ rC ?_ ?_ rfl rfl) ?_;rotate_left
 ·simp -implicitDefEqProofs only[go_sem,Z1,Z2,Z3,Z4];all_goals(try exact sM)
 ·simp -implicitDefEqProofs only[go_sem,Z1,Z2,Z3,Z4];all_goals(try exact sM)
 rotate_left;exact⟨oM,oM,by simpa using k2⟩;rintro i k ⟨h1,h2,h3⟩;rcases aa (i<marks.length) with g1|g1
 ·rcases aa (k<l.marks.length) with g2|g2
  ·rw[ae g1,ae g2] at h3;obtain⟨s1,s2⟩:=abB h3;try simp -implicitDefEqProofs only[go_sem,Z1,Z2,Z3,Z4,g1,g2]
   refine sW ?_;refine sK ?_;rcases aa (marks[i]=l.marks[k]) with g3|g3
   ·have g3':=eq_true g3;try simp -implicitDefEqProofs only[go_sem,Z1,Z2,Z3,Z4,g3']
    refine sW ?_;refine sQ ?_;refine⟨i+1,k+1,?_,sL,aZ rC ?_ ?_ rfl rfl⟩;rotate_left
    ·simp -implicitDefEqProofs only[go_sem,Z1,Z2,Z3,Z4];all_goals(try exact sM)
    ·simp -implicitDefEqProofs only[go_sem,Z1,Z2,Z3,Z4];all_goals(try exact sM)
    exact⟨oM,oM,s1 g3⟩
   (try simp -implicitDefEqProofs only[go_sem,Z1,Z2,Z3,Z4,g3]);refine sW ?_;refine sQ ?_;refine⟨i+1,k,?_,sL,aZ rC ?_ ?_ rfl rfl⟩;rotate_left
   ·refine sB ?_;all_goals(try exact sM)
   ·refine sB ?_;all_goals(try exact sM)
   exact⟨oM,oM,by rw[ae g2];exact s2 g3⟩
  obtain rfl:k=l.marks.length:=oM;try simp -implicitDefEqProofs only[go_sem,Z1,Z2,Z3,Z4,g1,g2]
  refine sI ?_;refine aD [] hfin ?_;refine sI ?_;refine oW ?_;all_goals(first|done|(simp;done)|(simp;omega)|skip)
 have e:k=l.marks.length:=by rw[List.drop_of_length_le (Nat.le_of_not_lt g1)] at h3;have:=List.length_drop (i:=k) (l:=l.marks);rw[List.sublist_nil.1 h3] at this;simp at this;omega
 subst e;try simp -implicitDefEqProofs only[go_sem,Z1,Z2,Z3,Z4,g1]
 refine sI ?_;refine aD [] hfin ?_;refine sI ?_;refine oW ?_;all_goals(first|done|(simp;done)|(simp;omega)|skip)
end Go.Proofs.YtphcpjhkeipggaaGreat
