/-
  The program: the walks of models. A step towards the exact laws.
-/
import Derived.Test.YtabembjmeobhoaaGreatKDa
set_option linter.unusedVariables false
set_option linter.unusedSimpArgs false
open Bool renaming true_and→aB
open Classical renaming em→aa
open List renaming drop_eq_getElem_cons→ae,drop_of_length_le→ai
namespace Go.Proofs.YtabembjmeobhoaaGreat
open Go.Eng Go.Mod
open Int renaming reduceEq→Z1,reduceLT→Z2,reduceLE→Z3,reduceToNat→Z4
set_option maxRecDepth 100000
set_option maxHeartbeats 800000
theorem El(f:Nat)(cap:List PV)(jS:tK 0 cap=true)(p:Mod.Rat→Bool)(xs:List Mod.Rat)(hf:∀x∈xs,C E.P f (av (eU x)::cap) [] (bz (bv (p x)) [])) :
 C E.P 260 [lv (bp xs),.fn f cap] [] (bz (iv (idxOf p xs)) []):=by
 refine gT (nt:=19) (rs:=[.tmp 4]) hm Tryz.func260 fun hl he cq=>?_
 refine aL hm (fun(i:Nat)=> i≤xs.length∧idxOf p xs=gh p (xs.drop i) i) (fun(i:Nat)=> ⟨dx 19 .any [(0,lv (bp xs)),(1,.fn f cap),(7,iv xs.length),(8,iv i)],[]⟩) (fun(i:Nat)=> xs.length-i) (0) ?_ (ar [] ?_ ?_ rfl rfl) ?_
 rotate_left
 ·refine sB ?_
  all_goals(simp[aI, *];done)
 ·exact sD
 rotate_left
 ·simp[idxOf]
 ·rintro i ⟨hi,hg⟩
  rcases aa (i<xs.length) with h1|h1
  ·rw[ae h1,gh] at hg
   refine yA ?_
   have hc:=hf xs[i] (List.getElem_mem h1)
   refine bw cap hc ?_ ?_<;>simp -implicitDefEqProofs only[go_sem,Z1,Z2,Z3,Z4,jS]
   cases h2:p xs[i]
   ·rw[h2] at hg
    simp only[Bool.false_eq_true,if_false] at hg
    refine sB ?_
    refine⟨by omega,?_⟩
    refine⟨i+1,?_,sL,ar [] ?_ ?_ rfl rfl⟩
    rotate_left
    ·refine sB ?_
     all_goals(simp[aI, *];done)
    ·exact sD
    exact⟨by omega,hg⟩
   ·rw[h2] at hg
    simp only[if_true] at hg
    refine sB ?_
    refine an ?_
    refine sB ?_
    all_goals(simp[hg];done)
  ·rw[ai (by omega),gh] at hg
   refine yA ?_
   refine an ?_
   refine sB ?_
   all_goals(simp[hg];done)
theorem sH(f:Nat)(cap:List PV)(jS:tK 0 cap=true)(p:Mod.Rat→Bool)(xs:List Mod.Rat)(hf:∀x∈xs,C E.P f (av (eU x)::cap) [] (bz (bv (p x)) [])) :
 C E.P 222 [lv (bp xs),.fn f cap] [] (bz (bv (xs.any p)) []):=by
 refine gT (nt:=9) (rs:=[.tmp 4]) hm Tryz.func222 fun hl he cq=>?_
 refine bw [] (El f cap jS p xs hf) ?_ ?_<;>simp -implicitDefEqProofs only[go_sem,Z1,Z2,Z3,Z4,jS]
 refine an ?_
 refine sB ?_
 all_goals(simp[B9];done)
theorem r8(a:nz):C E.P 238 [sv a] [] (bz (bv false) []):=by
 refine gT (nt:=6) (rs:=[.tmp 2]) hm Tryz.func238 fun hl he cq=>?_
 refine an ?_
 exact sD
theorem wz(a:Int):C E.P 239 [iv a] [] (bz (bv false) []):=by
 refine gT (nt:=6) (rs:=[.tmp 2]) hm Tryz.func239 fun hl he cq=>?_
 refine an ?_
 exact sD
theorem wX(a b:nz):C E.P 185 [sv a,sv b] [] (bz (iv (nP a b)) []):=by
 have hg:=E7 a b
 refine gT (nt:=20) (rs:=[.tmp 4]) hm Tryz.func185 fun hl he cq=>?_
 refine aD [] (r8 a) ?_
 refine aD [] (r8 b) ?_
 cases h1:Op.bytesLess a b
 ·rw[h1,Bool.false_or] at hg
  cases h2:Op.bytesLess b a
  ·rw[h2] at hg
   simp -implicitDefEqProofs only[go_sem,Z1,Z2,Z3,Z4,h1,h2,hg]
   refine an ?_
   refine sB ?_
   all_goals(simp[nP,gy,h1,h2];done)
  ·rw[h2] at hg
   simp -implicitDefEqProofs only[go_sem,Z1,Z2,Z3,Z4,h1,h2,hg]
   refine an ?_
   refine sB ?_
   all_goals(simp[nP,gy,h1,h2];done)
 ·refine yA ?_
  refine an ?_
  refine sB ?_
  all_goals(simp[nP,gy,h1];done)
theorem AQ(a b:Int):C E.P 186 [iv a,iv b] [] (bz (iv (oA a b)) []):=by
 refine gT (nt:=20) (rs:=[.tmp 4]) hm Tryz.func186 fun hl he cq=>?_
 refine aD [] (wz a) ?_
 refine aD [] (wz b) ?_
 rcases aa (a<b) with h1|h1
 ·refine yA ?_
  refine an ?_
  refine sB ?_
  all_goals(simp[oA,h1];done)
 ·rcases aa (b<a) with h2|h2
  ·refine yJ ?_
   refine an ?_
   refine sB ?_
   all_goals(simp[oA,h1,h2];done)
  ·refine yJ ?_
   refine an ?_
   refine sB ?_
   all_goals(simp[oA,h1,h2];done)
def YZ:List Int→Int
 | []=>0
 | n::ns=>if n=0 then YZ ns else n
theorem WJ(ns:List Int):C E.P 184 [lv (bF ns)] [] (bz (iv (YZ ns)) []):=by
 refine gT (nt:=18) (rs:=[.tmp 2]) hm Tryz.func184 fun hl he cq=>?_
 refine aL hm (fun(i:Nat)=> i≤ns.length∧YZ ns=YZ (ns.drop i)) (fun(i:Nat)=> ⟨dx 18 .any [(3,iv 0),(6,lv (bF ns)),(7,iv ns.length),(8,iv i)],[]⟩) (fun(i:Nat)=> ns.length-i) (0) ?_ (ar [] ?_ ?_ rfl rfl) ?_
 rotate_left
 ·exact sD
 ·exact sD
 rotate_left
 ·simp
 ·rintro i ⟨hi,hg⟩
  rcases aa (i<ns.length) with h1|h1
  ·rw[ae h1,YZ] at hg
   refine yA ?_
   rcases aa (ns[i]=0) with h2|h2
   ·rw[if_pos h2] at hg
    have k2:=eq_true h2
    simp -implicitDefEqProofs only[go_sem,Z1,Z2,Z3,Z4,k2]
    refine sQ ?_
    refine⟨i+1,?_,sL,ar [] ?_ ?_ rfl rfl⟩
    rotate_left
    ·exact sD
    ·exact sD
    exact⟨by omega,hg⟩
   ·rw[if_neg h2] at hg
    simp -implicitDefEqProofs only[go_sem,Z1,Z2,Z3,Z4,h2,h1]
    refine an ?_
    refine sB ?_
    all_goals(simp[hg];done)
  ·rw[ai (by omega),YZ] at hg
   refine yA ?_
   refine an ?_
   refine sB ?_
   all_goals(simp[hg];done)
theorem AB(a b:Mod.Rat):C E.P 188 [av (eU a),av (eU b)] [] (bz (iv (oE a b)) []):=by
 refine gT (nt:=13) (rs:=[.tmp 4]) hm Tryz.func188 fun hl he cq=>?_
 refine aD [] (kT a b) ?_
 cases h1:cY a b
 ·refine sB ?_
  refine aD [] (kT b a) ?_
  cases h2:cY b a
  ·refine sB ?_
   refine an ?_
   refine sB ?_
   all_goals(simp[oE,h1,h2];done)
  ·refine sB ?_
   refine an ?_
   refine sB ?_
   all_goals(simp[oE,h1,h2];done)
 ·refine sB ?_
  refine an ?_
  refine sB ?_
  all_goals(simp[oE,h1];done)
theorem K9{xs ys:List Mod.Rat}{i:Nat}(h:i<xs.length)(h':i<ys.length):gW (xs.drop i) (ys.drop i)=if oE xs[i] ys[i]=0 then gW (xs.drop (i+1)) (ys.drop (i+1)) else oE xs[i] ys[i]:=by
 rw[ae h,ae h',gW]
theorem B8(a b:List Mod.Rat):C E.P 187 [lv (bp a),lv (bp b),.fn 188 []] [] (bz (iv (gW a b)) []):=by
 refine gT (nt:=39) (rs:=[.tmp 6]) hm Tryz.func187 fun hl he cq=>?_
 refine aL hm (fun(i:Nat)=> i≤a.length∧i≤b.length∧gW a b=gW (a.drop i) (b.drop i)) (fun(i:Nat)=> ⟨dx 39 .any [(0,lv (bp a)),(1,lv (bp b)),(2,.fn 188 []),(11,lv (bp a)),(12,iv a.length),(13,iv i)],[]⟩) (fun(i:Nat)=> a.length-i) (0) ?_ (ar [] ?_ ?_ rfl rfl) ?_
 rotate_left
 ·exact sD
 ·exact sD
 rotate_left
 ·simp
 ·rintro i ⟨hi,hi2,hg⟩
  rcases aa (i<a.length) with h1|h1
  ·rcases aa ((b.length:Int)≤(i:Int)) with h2|h2
   ·have e:i=b.length:=by omega
    rw[ae h1,ai (l:=b) (by omega),gW] at hg
    refine yJ ?_
    refine an ?_
    refine sB ?_
    all_goals(simp[hg];done)
   ·have h3:i<b.length:=by omega
    rw[K9 h1 h3] at hg
    simp -implicitDefEqProofs only[go_sem,Z1,Z2,Z3,Z4,h1,h2,h3]
    refine aD [] (AB a[i] b[i]) ?_
    rcases aa (oE a[i] b[i]=0) with h4|h4
    ·rw[if_pos h4] at hg
     have k4:=eq_true h4
     simp -implicitDefEqProofs only[go_sem,Z1,Z2,Z3,Z4,k4]
     refine sQ ?_
     refine⟨i+1,?_,sL,ar [] ?_ ?_ rfl rfl⟩
     rotate_left
     ·exact sD
     ·exact sD
     exact⟨by omega,by omega,hg⟩
    ·rw[if_neg h4] at hg
     refine yD ?_
     refine an ?_
     refine sB ?_
     all_goals(simp[hg];done)
  ·rw[ai (l:=a) (by omega)] at hg
   rcases aa ((a.length:Int)<(b.length:Int)) with h2|h2
   ·have h3:i<b.length:=by omega
    rw[ae h3,gW] at hg
    refine yJ ?_
    refine an ?_
    refine sB ?_
    all_goals(simp[hg];done)
   ·rw[ai (l:=b) (by omega),gW] at hg
    refine yJ ?_
    refine an ?_
    refine sB ?_
    all_goals(simp[hg];done)
theorem Xx(a b:Mod.Row):YZ [nP a.name b.name,oA a.args.length b.args.length,gW a.args b.args]=fc a b:=by
 simp only[YZ,fc]
 rcases aa (nP a.name b.name=0) with h1|h1
 ·rcases aa (oA a.args.length b.args.length=0) with h2|h2
  ·by_cases h3:gW a.args b.args=0<;>simp[h1,h2,h3]
  ·simp[h1,h2]
 ·simp[h1]
theorem nT(a b:Mod.Row):C E.P 120 [av (om a),av (om b)] [] (bz (iv (fc a b)) []):=by
 refine gT (nt:=24) (rs:=[.tmp 4]) hm Tryz.func120 fun hl he cq=>?_
 refine aD [] (wX a.name b.name) ?_
 refine aD [] (AQ a.args.length b.args.length) ?_
 refine aD [] (B8 a.args b.args) ?_
 refine dH [] [2] (WJ [nP a.name b.name,oA a.args.length b.args.length,gW a.args b.args]) rfl ?_ ?_ ?_
 ·exact sV
 all_goals simp -implicitDefEqProofs only[go_sem,Z1,Z2,Z3,Z4]
 refine iK ?_
 refine an ?_
 refine sB ?_
 all_goals(simp[Xx];done)
theorem EJ(a:Mod.Rat):C E.P 223 [av (eU a)] [] (bz (bv (!bX a)) []):=by
 refine gT (nt:=6) (rs:=[.tmp 2]) hm Tryz.func223 fun hl he cq=>?_
 refine aD [] (gP a) ?_
 refine an ?_
 exact sD
theorem Iy(x:Mod.Row):C E.P 147 [av (om x)] [] (bz (bv (kR x)) []):=by
 refine gT (nt:=23) (rs:=[.tmp 2]) hm Tryz.func147 fun hl he cq=>?_
 refine aD [] (qg x.name) ?_
 cases h1:fC x.name
 ·simp -implicitDefEqProofs only[go_sem,Z1,Z2,Z3,Z4]
  refine an ?_
  refine sB ?_
  all_goals(simp[kR,h1];done)
 ·rcases aa ((x.args.length:Int)≤2) with h2|h2
  ·have h2':x.args.length≤2:=by omega
   refine yB ?_
   refine aD [] (gP x.val) ?_
   cases h3:bX x.val
   ·refine sB ?_
    refine an ?_
    refine sB ?_
    all_goals(simp[kR,h1,h2',h3];done)
   ·refine sB ?_
    refine aD [] (sH 223 [] rfl (fun n=>!bX n) x.args (fun n _=>EJ n)) ?_
    refine an ?_
    refine sB ?_
    all_goals(simp[kR,h1,h2',h3,List.all_eq_not_any_not];done)
  ·have h2':¬x.args.length≤2:=by omega
   refine yB ?_
   refine an ?_
   refine sB ?_
   all_goals(simp[kR,h1,h2'];done)
def sw(l:List Mod.Row):Nat→Option Mod.Row
 | 0=>none
 | j+1=>l[j]?
theorem D9(m:Mod.Model):C E.P 72 [av (ez m)] [] (bz (bv (fL m)) []):=by
 refine gT (nt:=36) (rs:=[.tmp 2]) hm Tryz.func72 fun hl he cq=>?_
 rcases aa ((40:Int)<(m.rows.length:Int)) with h0|h0
 ·have h0':¬m.rows.length≤40:=by omega
  simp -implicitDefEqProofs only[go_sem,Z1,Z2,Z3,Z4,h0]
  refine an ?_
  refine sB ?_
  all_goals(simp[fL,h0'];done)
 ·have hmo:fL m=vp none m.rows:=by
   have h0':m.rows.length≤40:=by omega
   simp[fL,h0']
  simp -implicitDefEqProofs only[go_sem,Z1,Z2,Z3,Z4,h0]
  refine aL hm (fun(i:Nat)=> i≤m.rows.length∧vp none m.rows=vp (sw m.rows i) (m.rows.drop i)) (fun(i:Nat)=> ⟨dx 36 .any [(1,.ptr 0 0),(10,lv (bM m.rows)),(11,iv m.rows.length),(12,iv i)],[some (.box (cE (ez m)))]⟩) (fun(i:Nat)=> m.rows.length-i) (0) ?_ (ar [some 0] ?_ ?_ rfl rfl) ?_
  rotate_left
  ·exact sD
  ·exact sD
  rotate_left
  ·simp[sw]
  ·rintro i ⟨hi,hg⟩
   rcases aa (i<m.rows.length) with h1|h1
   ·rw[ae h1] at hg
    simp only[vp] at hg
    refine yA ?_
    refine aD [] (Iy m.rows[i]) ?_
    cases h2:kR m.rows[i]
    ·have e:fL m=false:=by rw[hmo,hg,h2];simp
     refine sB ?_
     refine iK ?_
     refine an ?_
     refine sB ?_
     all_goals(simp[e];done)
    ·rw[h2,aB] at hg
     cases i with
     | zero=>
       simp only[sw,aB] at hg
       simp -implicitDefEqProofs only[go_sem,Z1,Z2,Z3,Z4,Int.lt_irrefl]
       refine iK ?_
       refine sQ ?_
       refine⟨0+1,?_,sL,ar [some 0] ?_ ?_ rfl rfl⟩
       rotate_left
       ·refine sB ?_
        all_goals(simp[aI, *];done)
       ·exact sD
       refine⟨by omega,?_⟩
       rw[hg]
       simp[sw,h1]
     | succ j=>
       have hj:j<m.rows.length:=by omega
       have e1:((j:Int)+1-1)=(j:Int):=by omega
       have e2:(0:Int)<(j:Int)+1:=by omega
       have et:((j:Int)+1).toNat=j+1:=by omega
       have e3:sw m.rows (j+1)=some m.rows[j]:=by simp[sw,hj]
       rw[e3] at hg
       simp only at hg
       simp -implicitDefEqProofs only[go_sem,Z1,Z2,Z3,Z4,e1,e2,et,hj,h1]
       refine sQ ?_
       refine aD [] (nT m.rows[j] m.rows[j+1]) ?_
       refine iK ?_
       rcases aa (0≤fc m.rows[j] m.rows[j+1]) with q4|q4
       ·have q5:¬fc m.rows[j] m.rows[j+1]<0:=by omega
        have e:fL m=false:=by rw[hmo,hg];simp[q5]
        simp -implicitDefEqProofs only[go_sem,Z1,Z2,Z3,Z4,q4]
        refine an ?_
        refine sB ?_
        all_goals(simp[e];done)
       ·have q5:fc m.rows[j] m.rows[j+1]<0:=by omega
        simp -implicitDefEqProofs only[go_sem,Z1,Z2,Z3,Z4,q4]
        refine sQ ?_
        refine⟨j+1+1,?_,sL,ar [some 0] ?_ ?_ rfl rfl⟩
        rotate_left
        ·exact sD
        ·exact sD
        refine⟨by omega,?_⟩
        rw[hg]
        simp[sw,h1,q5]
   ·rw[ai (by omega)] at hg
    simp only[vp] at hg
    refine yA ?_
    refine an ?_
    refine sB ?_
    all_goals(simp[hmo,hg];done)
end Go.Proofs.YtabembjmeobhoaaGreat
