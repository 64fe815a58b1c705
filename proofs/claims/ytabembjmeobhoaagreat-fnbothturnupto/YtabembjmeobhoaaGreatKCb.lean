/-
  The program: the walks of models. A step towards the exact laws.
-/
import Derived.Test.YtabembjmeobhoaaGreatKCa
set_option linter.unusedVariables false
set_option linter.unusedSimpArgs false
open Bool renaming true_and→aE
open Classical renaming em→aa
open List renaming drop_eq_getElem_cons→ah,drop_of_length_le→al
namespace Go.Proofs.YtabembjmeobhoaaGreat
open Go.Eng Go.Mod
open Int renaming reduceEq→Z1,reduceLT→Z2,reduceLE→Z3,reduceToNat→Z4
set_option maxRecDepth 100000
set_option maxHeartbeats 800000
theorem Ez(f:Nat)(cap:List PV)(jX:tM 0 cap=true)(p:Mod.Rat→Bool)(xs:List Mod.Rat)(hf:∀x∈xs,C E.P f (av (eY x)::cap) [] (bD (bv (p x)) [])) :
 C E.P 260 [lv (br xs),.fn f cap] [] (bD (iv (idxOf p xs)) []):=by
 refine gT (nt:=19) (rs:=[.tmp 4]) hm Tryz.func260 fun hl he cq=>?_
 refine aM hm (fun(i:Nat)=> i≤xs.length∧idxOf p xs=gi p (xs.drop i) i) (fun(i:Nat)=> ⟨dH 19 .any [(0,lv (br xs)),(1,.fn f cap),(7,iv xs.length),(8,iv i)],[]⟩) (fun(i:Nat)=> xs.length-i) (0) ?_ (ar [] ?_ ?_ rfl rfl) ?_
 rotate_left
 ·refine sB ?_
  all_goals(simp[aI, *];done)
 ·exact sD
 rotate_left
 ·simp[idxOf]
 ·rintro i ⟨hi,hg⟩
  rcases aa (i<xs.length) with h1|h1
  ·rw[ah h1,gi] at hg
   refine yA ?_
   have hc:=hf xs[i] (List.getElem_mem h1)
   refine bp cap hc ?_ ?_<;>simp -implicitDefEqProofs only[go_sem,Z1,Z2,Z3,Z4,jX]
   cases h2:p xs[i]
   ·rw[h2] at hg
    simp only[Bool.false_eq_true,if_false] at hg
    refine sB ?_
    refine⟨by omega,?_⟩
    refine⟨i+1,?_,sL,ar [] ?_ ?_ rfl rfl⟩
    rotate_left
    ·refine sB ?_
     all_goals(simp[aI, *];done)
    ·exact sD
    exact⟨by omega,hg⟩
   ·rw[h2] at hg
    simp only[if_true] at hg
    refine sB ?_
    refine an ?_
    refine sB ?_
    all_goals(simp[hg];done)
  ·rw[al (by omega),gi] at hg
   refine yA ?_
   refine an ?_
   refine sB ?_
   all_goals(simp[hg];done)
theorem rI(f:Nat)(cap:List PV)(jX:tM 0 cap=true)(p:Mod.Rat→Bool)(xs:List Mod.Rat)(hf:∀x∈xs,C E.P f (av (eY x)::cap) [] (bD (bv (p x)) [])) :
 C E.P 222 [lv (br xs),.fn f cap] [] (bD (bv (xs.any p)) []):=by
 refine gT (nt:=9) (rs:=[.tmp 4]) hm Tryz.func222 fun hl he cq=>?_
 refine bp [] (Ez f cap jX p xs hf) ?_ ?_<;>simp -implicitDefEqProofs only[go_sem,Z1,Z2,Z3,Z4,jX]
 refine an ?_
 refine sB ?_
 all_goals(simp[BU];done)
theorem sG(a:nE):C E.P 238 [sv a] [] (bD (bv false) []):=by
 refine gT (nt:=6) (rs:=[.tmp 2]) hm Tryz.func238 fun hl he cq=>?_
 refine an ?_
 exact sD
theorem wx(a:Int):C E.P 239 [iv a] [] (bD (bv false) []):=by
 refine gT (nt:=6) (rs:=[.tmp 2]) hm Tryz.func239 fun hl he cq=>?_
 refine an ?_
 exact sD
theorem x6(a b:nE):C E.P 185 [sv a,sv b] [] (bD (iv (nW a b)) []):=by
 have hg:=Fj a b
 refine gT (nt:=20) (rs:=[.tmp 4]) hm Tryz.func185 fun hl he cq=>?_
 refine aD [] (sG a) ?_
 refine aD [] (sG b) ?_
 cases h1:Op.bytesLess a b
 ·rw[h1,Bool.false_or] at hg
  cases h2:Op.bytesLess b a
  ·rw[h2] at hg
   simp -implicitDefEqProofs only[go_sem,Z1,Z2,Z3,Z4,h1,h2,hg]
   refine an ?_
   refine sB ?_
   all_goals(simp[nW,gC,h1,h2];done)
  ·rw[h2] at hg
   simp -implicitDefEqProofs only[go_sem,Z1,Z2,Z3,Z4,h1,h2,hg]
   refine an ?_
   refine sB ?_
   all_goals(simp[nW,gC,h1,h2];done)
 ·refine yA ?_
  refine an ?_
  refine sB ?_
  all_goals(simp[nW,gC,h1];done)
theorem BE(a b:Int):C E.P 186 [iv a,iv b] [] (bD (iv (oJ a b)) []):=by
 refine gT (nt:=20) (rs:=[.tmp 4]) hm Tryz.func186 fun hl he cq=>?_
 refine aD [] (wx a) ?_
 refine aD [] (wx b) ?_
 rcases aa (a<b) with h1|h1
 ·refine yA ?_
  refine an ?_
  refine sB ?_
  all_goals(simp[oJ,h1];done)
 ·rcases aa (b<a) with h2|h2
  ·refine yJ ?_
   refine an ?_
   refine sB ?_
   all_goals(simp[oJ,h1,h2];done)
  ·refine yJ ?_
   refine an ?_
   refine sB ?_
   all_goals(simp[oJ,h1,h2];done)
def Zx:List Int→Int
 | []=>0
 | n::ns=>if n=0 then Zx ns else n
theorem Xl(ns:List Int):C E.P 184 [lv (bI ns)] [] (bD (iv (Zx ns)) []):=by
 refine gT (nt:=18) (rs:=[.tmp 2]) hm Tryz.func184 fun hl he cq=>?_
 refine aM hm (fun(i:Nat)=> i≤ns.length∧Zx ns=Zx (ns.drop i)) (fun(i:Nat)=> ⟨dH 18 .any [(3,iv 0),(6,lv (bI ns)),(7,iv ns.length),(8,iv i)],[]⟩) (fun(i:Nat)=> ns.length-i) (0) ?_ (ar [] ?_ ?_ rfl rfl) ?_
 rotate_left
 ·exact sD
 ·exact sD
 rotate_left
 ·simp
 ·rintro i ⟨hi,hg⟩
  rcases aa (i<ns.length) with h1|h1
  ·rw[ah h1,Zx] at hg
   refine yA ?_
   rcases aa (ns[i]=0) with h2|h2
   ·rw[if_pos h2] at hg
    have k2:=eq_true h2
    simp -implicitDefEqProofs only[go_sem,Z1,Z2,Z3,Z4,k2]
    refine sQ ?_
    refine⟨i+1,?_,sL,ar [] ?_ ?_ rfl rfl⟩
    rotate_left
    ·exact sD
    ·exact sD
    exact⟨by omega,hg⟩
   ·rw[if_neg h2] at hg
    simp -implicitDefEqProofs only[go_sem,Z1,Z2,Z3,Z4,h2,h1]
    refine an ?_
    refine sB ?_
    all_goals(simp[hg];done)
  ·rw[al (by omega),Zx] at hg
   refine yA ?_
   refine an ?_
   refine sB ?_
   all_goals(simp[hg];done)
theorem AE(a b:Mod.Rat):C E.P 188 [av (eY a),av (eY b)] [] (bD (iv (oy a b)) []):=by
 refine gT (nt:=13) (rs:=[.tmp 4]) hm Tryz.func188 fun hl he cq=>?_
 refine aD [] (lk a b) ?_
 cases h1:c8 a b
 ·refine sB ?_
  refine aD [] (lk b a) ?_
  cases h2:c8 b a
  ·refine sB ?_
   refine an ?_
   refine sB ?_
   all_goals(simp[oy,h1,h2];done)
  ·refine sB ?_
   refine an ?_
   refine sB ?_
   all_goals(simp[oy,h1,h2];done)
 ·refine sB ?_
  refine an ?_
  refine sB ?_
  all_goals(simp[oy,h1];done)
theorem KS{xs ys:List Mod.Rat}{i:Nat}(h:i<xs.length)(h':i<ys.length):hJ (xs.drop i) (ys.drop i)=if oy xs[i] ys[i]=0 then hJ (xs.drop (i+1)) (ys.drop (i+1)) else oy xs[i] ys[i]:=by
 rw[ah h,ah h',hJ]
theorem Bj(a b:List Mod.Rat):C E.P 187 [lv (br a),lv (br b),.fn 188 []] [] (bD (iv (hJ a b)) []):=by
 refine gT (nt:=39) (rs:=[.tmp 6]) hm Tryz.func187 fun hl he cq=>?_
 refine aM hm (fun(i:Nat)=> i≤a.length∧i≤b.length∧hJ a b=hJ (a.drop i) (b.drop i)) (fun(i:Nat)=> ⟨dH 39 .any [(0,lv (br a)),(1,lv (br b)),(2,.fn 188 []),(11,lv (br a)),(12,iv a.length),(13,iv i)],[]⟩) (fun(i:Nat)=> a.length-i) (0) ?_ (ar [] ?_ ?_ rfl rfl) ?_
 rotate_left
 ·exact sD
 ·exact sD
 rotate_left
 ·simp
 ·rintro i ⟨hi,hi2,hg⟩
  rcases aa (i<a.length) with h1|h1
  ·rcases aa ((b.length:Int)≤(i:Int)) with h2|h2
   ·have e:i=b.length:=by omega
    rw[ah h1,al (l:=b) (by omega),hJ] at hg
    refine yJ ?_
    refine an ?_
    refine sB ?_
    all_goals(simp[hg];done)
   ·have h3:i<b.length:=by omega
    rw[KS h1 h3] at hg
    simp -implicitDefEqProofs only[go_sem,Z1,Z2,Z3,Z4,h1,h2,h3]
    refine aD [] (AE a[i] b[i]) ?_
    rcases aa (oy a[i] b[i]=0) with h4|h4
    ·rw[if_pos h4] at hg
     have k4:=eq_true h4
     simp -implicitDefEqProofs only[go_sem,Z1,Z2,Z3,Z4,k4]
     refine sQ ?_
     refine⟨i+1,?_,sL,ar [] ?_ ?_ rfl rfl⟩
     rotate_left
     ·exact sD
     ·exact sD
     exact⟨by omega,by omega,hg⟩
    ·rw[if_neg h4] at hg
     refine yD ?_
     refine an ?_
     refine sB ?_
     all_goals(simp[hg];done)
  ·rw[al (l:=a) (by omega)] at hg
   rcases aa ((a.length:Int)<(b.length:Int)) with h2|h2
   ·have h3:i<b.length:=by omega
    rw[ah h3,hJ] at hg
    refine yJ ?_
    refine an ?_
    refine sB ?_
    all_goals(simp[hg];done)
   ·rw[al (l:=b) (by omega),hJ] at hg
    refine yJ ?_
    refine an ?_
    refine sB ?_
    all_goals(simp[hg];done)
theorem Zj(a b:Mod.Row):Zx [nW a.name b.name,oJ a.args.length b.args.length,hJ a.args b.args]=fl a b:=by
 simp only[Zx,fl]
 rcases aa (nW a.name b.name=0) with h1|h1
 ·rcases aa (oJ a.args.length b.args.length=0) with h2|h2
  ·by_cases h3:hJ a.args b.args=0<;>simp[h1,h2,h3]
  ·simp[h1,h2]
 ·simp[h1]
theorem n6(a b:Mod.Row):C E.P 120 [av (qo a),av (qo b)] [] (bD (iv (fl a b)) []):=by
 refine gT (nt:=24) (rs:=[.tmp 4]) hm Tryz.func120 fun hl he cq=>?_
 refine aD [] (x6 a.name b.name) ?_
 refine aD [] (BE a.args.length b.args.length) ?_
 refine aD [] (Bj a.args b.args) ?_
 refine dQ [] [2] (Xl [nW a.name b.name,oJ a.args.length b.args.length,hJ a.args b.args]) rfl ?_ ?_ ?_
 ·exact sV
 all_goals simp -implicitDefEqProofs only[go_sem,Z1,Z2,Z3,Z4]
 refine iK ?_
 refine an ?_
 refine sB ?_
 all_goals(simp[Zj];done)
theorem EN(a:Mod.Rat):C E.P 223 [av (eY a)] [] (bD (bv (!bW a)) []):=by
 refine gT (nt:=6) (rs:=[.tmp 2]) hm Tryz.func223 fun hl he cq=>?_
 refine aD [] (hH a) ?_
 refine an ?_
 exact sD
theorem Ie(x:Mod.Row):C E.P 147 [av (qo x)] [] (bD (bv (kU x)) []):=by
 refine gT (nt:=23) (rs:=[.tmp 2]) hm Tryz.func147 fun hl he cq=>?_
 refine aD [] (pY x.name) ?_
 cases h1:fI x.name
 ·simp -implicitDefEqProofs only[go_sem,Z1,Z2,Z3,Z4]
  refine an ?_
  refine sB ?_
  all_goals(simp[kU,h1];done)
 ·rcases aa ((x.args.length:Int)≤2) with h2|h2
  ·have h2':x.args.length≤2:=by omega
   refine yB ?_
   refine aD [] (hH x.val) ?_
   cases h3:bW x.val
   ·refine sB ?_
    refine an ?_
    refine sB ?_
    all_goals(simp[kU,h1,h2',h3];done)
   ·refine sB ?_
    refine aD [] (rI 223 [] rfl (fun n=>!bW n) x.args (fun n _=>EN n)) ?_
    refine an ?_
    refine sB ?_
    all_goals(simp[kU,h1,h2',h3,List.all_eq_not_any_not];done)
  ·have h2':¬x.args.length≤2:=by omega
   refine yB ?_
   refine an ?_
   refine sB ?_
   all_goals(simp[kU,h1,h2'];done)
def se(l:List Mod.Row):Nat→Option Mod.Row
 | 0=>none
 | j+1=>l[j]?
theorem EM(m:Mod.Model):C E.P 72 [av (eZ m)] [] (bD (bv (fh m)) []):=by
 refine gT (nt:=36) (rs:=[.tmp 2]) hm Tryz.func72 fun hl he cq=>?_
 rcases aa ((40:Int)<(m.rows.length:Int)) with h0|h0
 ·have h0':¬m.rows.length≤40:=by omega
  simp -implicitDefEqProofs only[go_sem,Z1,Z2,Z3,Z4,h0]
  refine an ?_
  refine sB ?_
  all_goals(simp[fh,h0'];done)
 ·have hmo:fh m=vP none m.rows:=by
   have h0':m.rows.length≤40:=by omega
   simp[fh,h0']
  simp -implicitDefEqProofs only[go_sem,Z1,Z2,Z3,Z4,h0]
  refine aM hm (fun(i:Nat)=> i≤m.rows.length∧vP none m.rows=vP (se m.rows i) (m.rows.drop i)) (fun(i:Nat)=> ⟨dH 36 .any [(1,.ptr 0 0),(10,lv (bU m.rows)),(11,iv m.rows.length),(12,iv i)],[some (.box (cF (eZ m)))]⟩) (fun(i:Nat)=> m.rows.length-i) (0) ?_ (ar [some 0] ?_ ?_ rfl rfl) ?_
  rotate_left
  ·exact sD
  ·exact sD
  rotate_left
  ·simp[se]
  ·rintro i ⟨hi,hg⟩
   rcases aa (i<m.rows.length) with h1|h1
   ·rw[ah h1] at hg
    simp only[vP] at hg
    refine yA ?_
    refine aD [] (Ie m.rows[i]) ?_
    cases h2:kU m.rows[i]
    ·have e:fh m=false:=by rw[hmo,hg,h2];simp
     refine sB ?_
     refine iK ?_
     refine an ?_
     refine sB ?_
     all_goals(simp[e];done)
    ·rw[h2,aE] at hg
     cases i with
     | zero=>
       simp only[se,aE] at hg
       simp -implicitDefEqProofs only[go_sem,Z1,Z2,Z3,Z4,Int.lt_irrefl]
       refine iK ?_
       refine sQ ?_
       refine⟨0+1,?_,sL,ar [some 0] ?_ ?_ rfl rfl⟩
       rotate_left
       ·refine sB ?_
        all_goals(simp[aI, *];done)
       ·exact sD
       refine⟨by omega,?_⟩
       rw[hg]
       simp[se,h1]
     | succ j=>
       have hj:j<m.rows.length:=by omega
       have e1:((j:Int)+1-1)=(j:Int):=by omega
       have e2:(0:Int)<(j:Int)+1:=by omega
       have et:((j:Int)+1).toNat=j+1:=by omega
       have e3:se m.rows (j+1)=some m.rows[j]:=by simp[se,hj]
       rw[e3] at hg
       simp only at hg
       simp -implicitDefEqProofs only[go_sem,Z1,Z2,Z3,Z4,e1,e2,et,hj,h1]
       refine sQ ?_
       refine aD [] (n6 m.rows[j] m.rows[j+1]) ?_
       refine iK ?_
       rcases aa (0≤fl m.rows[j] m.rows[j+1]) with q4|q4
       ·have q5:¬fl m.rows[j] m.rows[j+1]<0:=by omega
        have e:fh m=false:=by rw[hmo,hg];simp[q5]
        simp -implicitDefEqProofs only[go_sem,Z1,Z2,Z3,Z4,q4]
        refine an ?_
        refine sB ?_
        all_goals(simp[e];done)
       ·have q5:fl m.rows[j] m.rows[j+1]<0:=by omega
        simp -implicitDefEqProofs only[go_sem,Z1,Z2,Z3,Z4,q4]
        refine sQ ?_
        refine⟨j+1+1,?_,sL,ar [some 0] ?_ ?_ rfl rfl⟩
        rotate_left
        ·exact sD
        ·exact sD
        refine⟨by omega,?_⟩
        rw[hg]
        simp[se,h1,q5]
   ·rw[al (by omega)] at hg
    simp only[vP] at hg
    refine yA ?_
    refine an ?_
    refine sB ?_
    all_goals(simp[hmo,hg];done)
end Go.Proofs.YtabembjmeobhoaaGreat
