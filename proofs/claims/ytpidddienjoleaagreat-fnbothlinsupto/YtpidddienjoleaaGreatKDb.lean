/-
  The program: the walks of models. A step towards the exact laws.
-/
import Derived.Test.YtpidddienjoleaaGreatKDL
import Derived.Test.YtpidddienjoleaaGreatKDa
set_option linter.unusedVariables false
set_option linter.unusedSimpArgs false
namespace Go.Proofs.YtpidddienjoleaaGreat
open Go.Eng Go.Mod
open Int renaming reduceEq→Z1,reduceLT→Z2,reduceLE→Z3,reduceToNat→Z4
set_option maxRecDepth 100000
set_option maxHeartbeats 800000
theorem wJ(f:Nat)(cap:List PV)(hcap:mi 0 cap=true)(p:Mod.Rat→Bool)(xs:List Mod.Rat)(hf:∀x∈xs,C E.P f (av (dp x)::cap) [] (aO (bv (p x)) [])) :
 C E.P 188 [lv (aM xs),.fn f cap] [] (aO (iv (idxOf p xs)) []):=by
 refine gT (nt:=19) (rs:=[.tmp 4]) hm Tryz.func188 fun hl he hLB=>?_
 refine au hm (fun(i:Nat)=> i≤xs.length∧idxOf p xs=bZ p (xs.drop i) i) (fun(i:Nat)=> ⟨b9 19 .any [(0,lv (aM xs)),(1,.fn f cap),(7,iv xs.length),(8,iv i)],[]⟩) (fun(i:Nat)=> xs.length-i) (0) ?_ (ah [] ?_ ?_ rfl rfl) ?_
 rotate_left
 ·refine sB ?_
  all_goals(simp[aa, *];done)
 ·exact sD
 rotate_left
 ·simp[idxOf]
 ·rintro i ⟨hi,hg⟩
  rcases Classical.em (i<xs.length) with h1|h1
  ·rw[List.drop_eq_getElem_cons h1,bZ] at hg
   simp -implicitDefEqProofs only[go_sem,Z1,Z2,Z3,Z4,h1]
   have hc:=hf xs[i] (List.getElem_mem h1)
   refine cL cap hc ?_ ?_<;>simp -implicitDefEqProofs only[go_sem,Z1,Z2,Z3,Z4,hcap]
   cases h2:p xs[i]
   ·rw[h2] at hg
    simp only[Bool.false_eq_true,if_false] at hg
    refine sB ?_
    refine⟨by omega,?_⟩
    refine⟨i+1,?_,?_,ah [] ?_ ?_ rfl rfl⟩
    rotate_left
    ·show _ < _
     omega
    ·refine sB ?_
     all_goals(simp[aa, *];done)
    ·exact sD
    exact⟨by omega,hg⟩
   ·rw[h2] at hg
    simp only[if_true] at hg
    refine sB ?_
    refine ab ?_
    refine sB ?_
    all_goals(simp[hg];done)
  ·rw[List.drop_of_length_le (by omega),bZ] at hg
   simp -implicitDefEqProofs only[go_sem,Z1,Z2,Z3,Z4,h1]
   refine ab ?_
   refine sB ?_
   all_goals(simp[hg];done)
theorem kZ(f:Nat)(cap:List PV)(hcap:mi 0 cap=true)(p:Mod.Rat→Bool)(xs:List Mod.Rat)(hf:∀x∈xs,C E.P f (av (dp x)::cap) [] (aO (bv (p x)) [])) :
 C E.P 131 [lv (aM xs),.fn f cap] [] (aO (bv (xs.any p)) []):=by
 refine gT (nt:=9) (rs:=[.tmp 4]) hm Tryz.func131 fun hl he hLB=>?_
 refine cL [] (wJ f cap hcap p xs hf) ?_ ?_<;>simp -implicitDefEqProofs only[go_sem,Z1,Z2,Z3,Z4,hcap]
 refine ab ?_
 refine sB ?_
 all_goals(simp[tL];done)
theorem kK(a:gR):C E.P 230 [sv a] [] (aO (bv false) []):=by
 refine gT (nt:=6) (rs:=[.tmp 2]) hm Tryz.func230 fun hl he hLB=>?_
 refine ab ?_
 exact sD
theorem oe(a:Int):C E.P 231 [iv a] [] (aO (bv false) []):=by
 refine gT (nt:=6) (rs:=[.tmp 2]) hm Tryz.func231 fun hl he hLB=>?_
 refine ab ?_
 exact sD
theorem pQ(a b:gR):C E.P 176 [sv a,sv b] [] (aO (iv (gM a b)) []):=by
 have hg:=xt a b
 refine gT (nt:=20) (rs:=[.tmp 4]) hm Tryz.func176 fun hl he hLB=>?_
 refine aD [] (kK a) ?_
 refine aD [] (kK b) ?_
 cases h1:Op.bytesLess a b
 ·rw[h1,Bool.false_or] at hg
  cases h2:Op.bytesLess b a
  ·rw[h2] at hg
   simp -implicitDefEqProofs only[go_sem,Z1,Z2,Z3,Z4,h1,h2,hg]
   refine ab ?_
   refine sB ?_
   all_goals(simp[gM,cR,h1,h2];done)
  ·rw[h2] at hg
   simp -implicitDefEqProofs only[go_sem,Z1,Z2,Z3,Z4,h1,h2,hg]
   refine ab ?_
   refine sB ?_
   all_goals(simp[gM,cR,h1,h2];done)
 ·simp -implicitDefEqProofs only[go_sem,Z1,Z2,Z3,Z4,h1]
  refine ab ?_
  refine sB ?_
  all_goals(simp[gM,cR,h1];done)
theorem sQ(a b:Int):C E.P 177 [iv a,iv b] [] (aO (iv (iu a b)) []):=by
 refine gT (nt:=20) (rs:=[.tmp 4]) hm Tryz.func177 fun hl he hLB=>?_
 refine aD [] (oe a) ?_
 refine aD [] (oe b) ?_
 rcases Classical.em (a<b) with h1|h1
 ·simp -implicitDefEqProofs only[go_sem,Z1,Z2,Z3,Z4,h1]
  refine ab ?_
  refine sB ?_
  all_goals(simp[iu,h1];done)
 ·rcases Classical.em (b<a) with h2|h2
  ·simp -implicitDefEqProofs only[go_sem,Z1,Z2,Z3,Z4,h1,h2]
   refine ab ?_
   refine sB ?_
   all_goals(simp[iu,h1,h2];done)
  ·simp -implicitDefEqProofs only[go_sem,Z1,Z2,Z3,Z4,h1,h2]
   refine ab ?_
   refine sB ?_
   all_goals(simp[iu,h1,h2];done)
def PN:List Int→Int
 | []=>0
 | n::ns=>if n=0 then PN ns else n
theorem L7(ns:List Int):C E.P 175 [lv (aJ ns)] [] (aO (iv (PN ns)) []):=by
 refine gT (nt:=18) (rs:=[.tmp 2]) hm Tryz.func175 fun hl he hLB=>?_
 refine au hm (fun(i:Nat)=> i≤ns.length∧PN ns=PN (ns.drop i)) (fun(i:Nat)=> ⟨b9 18 .any [(3,iv 0),(6,lv (aJ ns)),(7,iv ns.length),(8,iv i)],[]⟩) (fun(i:Nat)=> ns.length-i) (0) ?_ (ah [] ?_ ?_ rfl rfl) ?_
 rotate_left
 ·exact sD
 ·exact sD
 rotate_left
 ·simp
 ·rintro i ⟨hi,hg⟩
  rcases Classical.em (i<ns.length) with h1|h1
  ·rw[List.drop_eq_getElem_cons h1,PN] at hg
   simp -implicitDefEqProofs only[go_sem,Z1,Z2,Z3,Z4,h1]
   rcases Classical.em (ns[i]=0) with h2|h2
   ·rw[if_pos h2] at hg
    have k2:=eq_true h2
    simp -implicitDefEqProofs only[go_sem,Z1,Z2,Z3,Z4,k2]
    repeat(with_reducible apply And.intro;exact sO)
    refine⟨i+1,?_,?_,ah [] ?_ ?_ rfl rfl⟩
    rotate_left
    ·show _ < _
     omega
    ·exact sD
    ·exact sD
    exact⟨by omega,hg⟩
   ·rw[if_neg h2] at hg
    simp -implicitDefEqProofs only[go_sem,Z1,Z2,Z3,Z4,h2,h1]
    refine ab ?_
    refine sB ?_
    all_goals(simp[hg];done)
  ·rw[List.drop_of_length_le (by omega),PN] at hg
   simp -implicitDefEqProofs only[go_sem,Z1,Z2,Z3,Z4,h1]
   refine ab ?_
   refine sB ?_
   all_goals(simp[hg];done)
theorem rA(a b:Mod.Rat):C E.P 179 [av (dp a),av (dp b)] [] (aO (iv (iq a b)) []):=by
 refine gT (nt:=13) (rs:=[.tmp 4]) hm Tryz.func179 fun hl he hLB=>?_
 refine aD [] (eS a b) ?_
 cases h1:bD a b
 ·refine sB ?_
  refine aD [] (eS b a) ?_
  cases h2:bD b a
  ·refine sB ?_
   refine ab ?_
   refine sB ?_
   all_goals(simp[iq,h1,h2];done)
  ·refine sB ?_
   refine ab ?_
   refine sB ?_
   all_goals(simp[iq,h1,h2];done)
 ·refine sB ?_
  refine ab ?_
  refine sB ?_
  all_goals(simp[iq,h1];done)
theorem Di{xs ys:List Mod.Rat}{i:Nat}(h:i<xs.length)(h':i<ys.length):cH (xs.drop i) (ys.drop i)=if iq xs[i] ys[i]=0 then cH (xs.drop (i+1)) (ys.drop (i+1)) else iq xs[i] ys[i]:=by
 rw[List.drop_eq_getElem_cons h,List.drop_eq_getElem_cons h',cH]
theorem ud(a b:List Mod.Rat):C E.P 178 [lv (aM a),lv (aM b),.fn 179 []] [] (aO (iv (cH a b)) []):=by
 refine gT (nt:=39) (rs:=[.tmp 6]) hm Tryz.func178 fun hl he hLB=>?_
 refine au hm (fun(i:Nat)=> i≤a.length∧i≤b.length∧cH a b=cH (a.drop i) (b.drop i)) (fun(i:Nat)=> ⟨b9 39 .any [(0,lv (aM a)),(1,lv (aM b)),(2,.fn 179 []),(11,lv (aM a)),(12,iv a.length),(13,iv i)],[]⟩) (fun(i:Nat)=> a.length-i) (0) ?_ (ah [] ?_ ?_ rfl rfl) ?_
 rotate_left
 ·exact sD
 ·exact sD
 rotate_left
 ·simp
 ·rintro i ⟨hi,hi2,hg⟩
  rcases Classical.em (i<a.length) with h1|h1
  ·rcases Classical.em ((b.length:Int)≤(i:Int)) with h2|h2
   ·have e:i=b.length:=by omega
    rw[List.drop_eq_getElem_cons h1,List.drop_of_length_le (l:=b) (by omega),cH] at hg
    simp -implicitDefEqProofs only[go_sem,Z1,Z2,Z3,Z4,h1,h2]
    refine ab ?_
    refine sB ?_
    all_goals(simp[hg];done)
   ·have h3:i<b.length:=by omega
    rw[Di h1 h3] at hg
    simp -implicitDefEqProofs only[go_sem,Z1,Z2,Z3,Z4,h1,h2,h3]
    refine aD [] (rA a[i] b[i]) ?_
    rcases Classical.em (iq a[i] b[i]=0) with h4|h4
    ·rw[if_pos h4] at hg
     have k4:=eq_true h4
     simp -implicitDefEqProofs only[go_sem,Z1,Z2,Z3,Z4,k4]
     repeat(with_reducible apply And.intro;exact sO)
     refine⟨i+1,?_,?_,ah [] ?_ ?_ rfl rfl⟩
     rotate_left
     ·show _ < _
      omega
     ·exact sD
     ·exact sD
     exact⟨by omega,by omega,hg⟩
    ·rw[if_neg h4] at hg
     simp -implicitDefEqProofs only[go_sem,Z1,Z2,Z3,Z4,h4]
     refine ab ?_
     refine sB ?_
     all_goals(simp[hg];done)
  ·rw[List.drop_of_length_le (l:=a) (by omega)] at hg
   rcases Classical.em ((a.length:Int)<(b.length:Int)) with h2|h2
   ·have h3:i<b.length:=by omega
    rw[List.drop_eq_getElem_cons h3,cH] at hg
    simp -implicitDefEqProofs only[go_sem,Z1,Z2,Z3,Z4,h1,h2]
    refine ab ?_
    refine sB ?_
    all_goals(simp[hg];done)
   ·rw[List.drop_of_length_le (l:=b) (by omega),cH] at hg
    simp -implicitDefEqProofs only[go_sem,Z1,Z2,Z3,Z4,h1,h2]
    refine ab ?_
    refine sB ?_
    all_goals(simp[hg];done)
theorem Om(a b:Mod.Row):PN [gM a.name b.name,iu a.args.length b.args.length,cH a.args b.args]=bJ a b:=by
 simp only[PN,bJ]
 rcases Classical.em (gM a.name b.name=0) with h1|h1
 ·rcases Classical.em (iu a.args.length b.args.length=0) with h2|h2
  ·by_cases h3:cH a.args b.args=0<;>simp[h1,h2,h3]
  ·simp[h1,h2]
 ·simp[h1]
theorem gH(a b:Mod.Row):C E.P 116 [av (pG a),av (pG b)] [] (aO (iv (bJ a b)) []):=by
 refine gT (nt:=24) (rs:=[.tmp 4]) hm Tryz.func116 fun hl he hLB=>?_
 refine aD [] (pQ a.name b.name) ?_
 refine aD [] (sQ a.args.length b.args.length) ?_
 refine aD [] (ud a.args b.args) ?_
 refine bK [] [2] (L7 [gM a.name b.name,iu a.args.length b.args.length,cH a.args b.args]) rfl ?_ ?_ ?_
 ·exact sV
 all_goals simp -implicitDefEqProofs only[go_sem,Z1,Z2,Z3,Z4]
 refine iK ?_
 refine ab ?_
 refine sB ?_
 all_goals(simp[Om];done)
theorem wE(a:Mod.Rat):C E.P 229 [av (dp a)] [] (aO (bv (!aS a)) []):=by
 refine gT (nt:=6) (rs:=[.tmp 2]) hm Tryz.func229 fun hl he hLB=>?_
 refine aD [] (cE a) ?_
 refine ab ?_
 exact sD
theorem Ar(x:Mod.Row):C E.P 174 [av (pG x)] [] (aO (bv (jF x)) []):=by
 refine gT (nt:=23) (rs:=[.tmp 2]) hm Tryz.func174 fun hl he hLB=>?_
 refine aD [] (mf x.name) ?_
 cases h1:cg x.name
 ·simp -implicitDefEqProofs only[go_sem,Z1,Z2,Z3,Z4]
  refine ab ?_
  refine sB ?_
  all_goals(simp[jF,h1];done)
 ·rcases Classical.em ((x.args.length:Int)≤2) with h2|h2
  ·have h2':x.args.length≤2:=by omega
   simp -implicitDefEqProofs only[go_sem,Z1,Z2,Z3,Z4,h2]
   refine aD [] (cE x.val) ?_
   cases h3:aS x.val
   ·refine sB ?_
    refine ab ?_
    refine sB ?_
    all_goals(simp[jF,h1,h2',h3];done)
   ·refine sB ?_
    refine aD [] (kZ 229 [] rfl (fun n=>!aS n) x.args (fun n _=>wE n)) ?_
    refine ab ?_
    refine sB ?_
    all_goals(simp[jF,h1,h2',h3,List.all_eq_not_any_not];done)
  ·have h2':¬x.args.length≤2:=by omega
   simp -implicitDefEqProofs only[go_sem,Z1,Z2,Z3,Z4,h2]
   refine ab ?_
   refine sB ?_
   all_goals(simp[jF,h1,h2'];done)
def kY(l:List Mod.Row):Nat→Option Mod.Row
 | 0=>none
 | j+1=>l[j]?
theorem wK(m:Mod.Model):C E.P 112 [av (eO m)] [] (aO (bv (cW m)) []):=by
 refine gT (nt:=36) (rs:=[.tmp 2]) hm Tryz.func112 fun hl he hLB=>?_
 rcases Classical.em ((40:Int)<(m.rows.length:Int)) with h0|h0
 ·have h0':¬m.rows.length≤40:=by omega
  simp -implicitDefEqProofs only[go_sem,Z1,Z2,Z3,Z4,h0]
  refine ab ?_
  refine sB ?_
  all_goals(simp[cW,h0'];done)
 ·have hmo:cW m=nr none m.rows:=by
   have h0':m.rows.length≤40:=by omega
   simp[cW,h0']
  simp -implicitDefEqProofs only[go_sem,Z1,Z2,Z3,Z4,h0]
  refine au hm (fun(i:Nat)=> i≤m.rows.length∧nr none m.rows=nr (kY m.rows i) (m.rows.drop i)) (fun(i:Nat)=> ⟨b9 36 .any [(1,.ptr 0 0),(10,lv (bm m.rows)),(11,iv m.rows.length),(12,iv i)],[some (.box (bn (eO m)))]⟩) (fun(i:Nat)=> m.rows.length-i) (0) ?_ (ah [some 0] ?_ ?_ rfl rfl) ?_
  rotate_left
  ·exact sD
  ·exact sD
  rotate_left
  ·simp[kY]
  ·rintro i ⟨hi,hg⟩
   rcases Classical.em (i<m.rows.length) with h1|h1
   ·rw[List.drop_eq_getElem_cons h1] at hg
    simp only[nr] at hg
    simp -implicitDefEqProofs only[go_sem,Z1,Z2,Z3,Z4,h1]
    refine aD [] (Ar m.rows[i]) ?_
    cases h2:jF m.rows[i]
    ·have e:cW m=false:=by rw[hmo,hg,h2];simp
     refine sB ?_
     refine iK ?_
     refine ab ?_
     refine sB ?_
     all_goals(simp[e];done)
    ·rw[h2,Bool.true_and] at hg
     cases i with
     | zero=>
       simp only[kY,Bool.true_and] at hg
       simp -implicitDefEqProofs only[go_sem,Z1,Z2,Z3,Z4,Int.lt_irrefl]
       refine iK ?_
       repeat(with_reducible apply And.intro;exact sO)
       refine⟨0+1,?_,?_,ah [some 0] ?_ ?_ rfl rfl⟩
       rotate_left
       ·show _ < _
        omega
       ·refine sB ?_
        all_goals(simp[aa, *];done)
       ·exact sD
       refine⟨by omega,?_⟩
       rw[hg]
       simp[kY,h1]
     | succ j=>
       have hj:j<m.rows.length:=by omega
       have e1:((j:Int)+1-1)=(j:Int):=by omega
       have e2:(0:Int)<(j:Int)+1:=by omega
       have et:((j:Int)+1).toNat=j+1:=by omega
       have e3:kY m.rows (j+1)=some m.rows[j]:=by simp[kY,hj]
       rw[e3] at hg
       simp only at hg
       simp -implicitDefEqProofs only[go_sem,Z1,Z2,Z3,Z4,e1,e2,et,hj,h1]
       repeat(with_reducible apply And.intro;exact sO)
       refine aD [] (gH m.rows[j] m.rows[j+1]) ?_
       refine iK ?_
       rcases Classical.em (0≤bJ m.rows[j] m.rows[j+1]) with q4|q4
       ·have q5:¬bJ m.rows[j] m.rows[j+1]<0:=by omega
        have e:cW m=false:=by rw[hmo,hg];simp[q5]
        simp -implicitDefEqProofs only[go_sem,Z1,Z2,Z3,Z4,q4]
        refine ab ?_
        refine sB ?_
        all_goals(simp[e];done)
       ·have q5:bJ m.rows[j] m.rows[j+1]<0:=by omega
        simp -implicitDefEqProofs only[go_sem,Z1,Z2,Z3,Z4,q4]
        repeat(with_reducible apply And.intro;exact sO)
        refine⟨j+1+1,?_,?_,ah [some 0] ?_ ?_ rfl rfl⟩
        rotate_left
        ·show _ < _
         omega
        ·exact sD
        ·exact sD
        refine⟨by omega,?_⟩
        rw[hg]
        simp[kY,h1,q5]
   ·rw[List.drop_of_length_le (by omega)] at hg
    simp only[nr] at hg
    simp -implicitDefEqProofs only[go_sem,Z1,Z2,Z3,Z4,h1]
    refine ab ?_
    refine sB ?_
    all_goals(simp[hmo,hg];done)
end Go.Proofs.YtpidddienjoleaaGreat
