/-
  The program: the walks of models. A step towards the exact laws.
-/
import Derived.Test.YtabembjmeobhoaaGreatKBa
set_option linter.unusedVariables false
set_option linter.unusedSimpArgs false
open Bool renaming true_and→aM
open Classical renaming em→aa
open List renaming drop_eq_getElem_cons→aj,drop_of_length_le→al
namespace Go.Proofs.YtabembjmeobhoaaGreat
open Go.Eng Go.Mod
open Int renaming reduceEq→Z1,reduceLT→Z2,reduceLE→Z3,reduceToNat→Z4
set_option maxRecDepth 100000
set_option maxHeartbeats 800000
theorem DG(f:Nat)(cap:List PV)(jO:tI 0 cap=true)(p:Mod.Rat→Bool)(xs:List Mod.Rat)(hf:∀x∈xs,C E.P f (av (eO x)::cap) [] (bM (bv (p x)) [])) :
 C E.P 260 [lv (br xs),.fn f cap] [] (bM (iv (idxOf p xs)) []):=by
 refine gT (nt:=19) (rs:=[.tmp 4]) hm Tryz.func260 fun hl he cI=>?_
 refine aO hm (fun(i:Nat)=> i≤xs.length∧idxOf p xs=fX p (xs.drop i) i) (fun(i:Nat)=> ⟨dB 19 .any [(0,lv (br xs)),(1,.fn f cap),(7,iv xs.length),(8,iv i)],[]⟩) (fun(i:Nat)=> xs.length-i) (0) ?_ (aw [] ?_ ?_ rfl rfl) ?_
 rotate_left
 ·refine sB ?_
  all_goals(simp[aq, *];done)
 ·exact sD
 rotate_left
 ·simp[idxOf]
 ·rintro i ⟨hi,hg⟩
  rcases aa (i<xs.length) with h1|h1
  ·rw[aj h1,fX] at hg
   simp -implicitDefEqProofs only[go_sem,Z1,Z2,Z3,Z4,h1]
   have hc:=hf xs[i] (List.getElem_mem h1)
   refine bQ cap hc ?_ ?_<;>simp -implicitDefEqProofs only[go_sem,Z1,Z2,Z3,Z4,jO]
   cases h2:p xs[i]
   ·rw[h2] at hg
    simp only[Bool.false_eq_true,if_false] at hg
    refine sB ?_
    refine⟨by omega,?_⟩
    refine⟨i+1,?_,sL,aw [] ?_ ?_ rfl rfl⟩
    rotate_left
    ·refine sB ?_
     all_goals(simp[aq, *];done)
    ·exact sD
    exact⟨by omega,hg⟩
   ·rw[h2] at hg
    simp only[if_true] at hg
    refine sB ?_
    refine an ?_
    refine sB ?_
    all_goals(simp[hg];done)
  ·rw[al (by omega),fX] at hg
   simp -implicitDefEqProofs only[go_sem,Z1,Z2,Z3,Z4,h1]
   refine an ?_
   refine sB ?_
   all_goals(simp[hg];done)
theorem rD(f:Nat)(cap:List PV)(jO:tI 0 cap=true)(p:Mod.Rat→Bool)(xs:List Mod.Rat)(hf:∀x∈xs,C E.P f (av (eO x)::cap) [] (bM (bv (p x)) [])) :
 C E.P 222 [lv (br xs),.fn f cap] [] (bM (bv (xs.any p)) []):=by
 refine gT (nt:=9) (rs:=[.tmp 4]) hm Tryz.func222 fun hl he cI=>?_
 refine bQ [] (DG f cap jO p xs hf) ?_ ?_<;>simp -implicitDefEqProofs only[go_sem,Z1,Z2,Z3,Z4,jO]
 refine an ?_
 refine sB ?_
 all_goals(simp[AX];done)
theorem rK(a:ni):C E.P 238 [sv a] [] (bM (bv false) []):=by
 refine gT (nt:=6) (rs:=[.tmp 2]) hm Tryz.func238 fun hl he cI=>?_
 refine an ?_
 exact sD
theorem vM(a:Int):C E.P 239 [iv a] [] (bM (bv false) []):=by
 refine gT (nt:=6) (rs:=[.tmp 2]) hm Tryz.func239 fun hl he cI=>?_
 refine an ?_
 exact sD
theorem wO(a b:ni):C E.P 185 [sv a,sv b] [] (bM (iv (nS a b)) []):=by
 have hg:=Et a b
 refine gT (nt:=20) (rs:=[.tmp 4]) hm Tryz.func185 fun hl he cI=>?_
 refine aD [] (rK a) ?_
 refine aD [] (rK b) ?_
 cases h1:Op.bytesLess a b
 ·rw[h1,Bool.false_or] at hg
  cases h2:Op.bytesLess b a
  ·rw[h2] at hg
   simp -implicitDefEqProofs only[go_sem,Z1,Z2,Z3,Z4,h1,h2,hg]
   refine an ?_
   refine sB ?_
   all_goals(simp[nS,gn,h1,h2];done)
  ·rw[h2] at hg
   simp -implicitDefEqProofs only[go_sem,Z1,Z2,Z3,Z4,h1,h2,hg]
   refine an ?_
   refine sB ?_
   all_goals(simp[nS,gn,h1,h2];done)
 ·simp -implicitDefEqProofs only[go_sem,Z1,Z2,Z3,Z4,h1]
  refine an ?_
  refine sB ?_
  all_goals(simp[nS,gn,h1];done)
theorem Ao(a b:Int):C E.P 186 [iv a,iv b] [] (bM (iv (oo a b)) []):=by
 refine gT (nt:=20) (rs:=[.tmp 4]) hm Tryz.func186 fun hl he cI=>?_
 refine aD [] (vM a) ?_
 refine aD [] (vM b) ?_
 rcases aa (a<b) with h1|h1
 ·simp -implicitDefEqProofs only[go_sem,Z1,Z2,Z3,Z4,h1]
  refine an ?_
  refine sB ?_
  all_goals(simp[oo,h1];done)
 ·rcases aa (b<a) with h2|h2
  ·simp -implicitDefEqProofs only[go_sem,Z1,Z2,Z3,Z4,h1,h2]
   refine an ?_
   refine sB ?_
   all_goals(simp[oo,h1,h2];done)
  ·simp -implicitDefEqProofs only[go_sem,Z1,Z2,Z3,Z4,h1,h2]
   refine an ?_
   refine sB ?_
   all_goals(simp[oo,h1,h2];done)
def Yp:List Int→Int
 | []=>0
 | n::ns=>if n=0 then Yp ns else n
theorem UN(ns:List Int):C E.P 184 [lv (bG ns)] [] (bM (iv (Yp ns)) []):=by
 refine gT (nt:=18) (rs:=[.tmp 2]) hm Tryz.func184 fun hl he cI=>?_
 refine aO hm (fun(i:Nat)=> i≤ns.length∧Yp ns=Yp (ns.drop i)) (fun(i:Nat)=> ⟨dB 18 .any [(3,iv 0),(6,lv (bG ns)),(7,iv ns.length),(8,iv i)],[]⟩) (fun(i:Nat)=> ns.length-i) (0) ?_ (aw [] ?_ ?_ rfl rfl) ?_
 rotate_left
 ·exact sD
 ·exact sD
 rotate_left
 ·simp
 ·rintro i ⟨hi,hg⟩
  rcases aa (i<ns.length) with h1|h1
  ·rw[aj h1,Yp] at hg
   simp -implicitDefEqProofs only[go_sem,Z1,Z2,Z3,Z4,h1]
   rcases aa (ns[i]=0) with h2|h2
   ·rw[if_pos h2] at hg
    have k2:=eq_true h2
    simp -implicitDefEqProofs only[go_sem,Z1,Z2,Z3,Z4,k2]
    refine sQ ?_
    refine⟨i+1,?_,sL,aw [] ?_ ?_ rfl rfl⟩
    rotate_left
    ·exact sD
    ·exact sD
    exact⟨by omega,hg⟩
   ·rw[if_neg h2] at hg
    simp -implicitDefEqProofs only[go_sem,Z1,Z2,Z3,Z4,h2,h1]
    refine an ?_
    refine sB ?_
    all_goals(simp[hg];done)
  ·rw[al (by omega),Yp] at hg
   simp -implicitDefEqProofs only[go_sem,Z1,Z2,Z3,Z4,h1]
   refine an ?_
   refine sB ?_
   all_goals(simp[hg];done)
theorem zG(a b:Mod.Rat):C E.P 188 [av (eO a),av (eO b)] [] (bM (iv (oJ a b)) []):=by
 refine gT (nt:=13) (rs:=[.tmp 4]) hm Tryz.func188 fun hl he cI=>?_
 refine aD [] (kR a b) ?_
 cases h1:cS a b
 ·refine sB ?_
  refine aD [] (kR b a) ?_
  cases h2:cS b a
  ·refine sB ?_
   refine an ?_
   refine sB ?_
   all_goals(simp[oJ,h1,h2];done)
  ·refine sB ?_
   refine an ?_
   refine sB ?_
   all_goals(simp[oJ,h1,h2];done)
 ·refine sB ?_
  refine an ?_
  refine sB ?_
  all_goals(simp[oJ,h1];done)
theorem JC{xs ys:List Mod.Rat}{i:Nat}(h:i<xs.length)(h':i<ys.length):gM (xs.drop i) (ys.drop i)=if oJ xs[i] ys[i]=0 then gM (xs.drop (i+1)) (ys.drop (i+1)) else oJ xs[i] ys[i]:=by
 rw[aj h,aj h',gM]
theorem Aq(a b:List Mod.Rat):C E.P 187 [lv (br a),lv (br b),.fn 188 []] [] (bM (iv (gM a b)) []):=by
 refine gT (nt:=39) (rs:=[.tmp 6]) hm Tryz.func187 fun hl he cI=>?_
 refine aO hm (fun(i:Nat)=> i≤a.length∧i≤b.length∧gM a b=gM (a.drop i) (b.drop i)) (fun(i:Nat)=> ⟨dB 39 .any [(0,lv (br a)),(1,lv (br b)),(2,.fn 188 []),(11,lv (br a)),(12,iv a.length),(13,iv i)],[]⟩) (fun(i:Nat)=> a.length-i) (0) ?_ (aw [] ?_ ?_ rfl rfl) ?_
 rotate_left
 ·exact sD
 ·exact sD
 rotate_left
 ·simp
 ·rintro i ⟨hi,hi2,hg⟩
  rcases aa (i<a.length) with h1|h1
  ·rcases aa ((b.length:Int)≤(i:Int)) with h2|h2
   ·have e:i=b.length:=by omega
    rw[aj h1,al (l:=b) (by omega),gM] at hg
    simp -implicitDefEqProofs only[go_sem,Z1,Z2,Z3,Z4,h1,h2]
    refine an ?_
    refine sB ?_
    all_goals(simp[hg];done)
   ·have h3:i<b.length:=by omega
    rw[JC h1 h3] at hg
    simp -implicitDefEqProofs only[go_sem,Z1,Z2,Z3,Z4,h1,h2,h3]
    refine aD [] (zG a[i] b[i]) ?_
    rcases aa (oJ a[i] b[i]=0) with h4|h4
    ·rw[if_pos h4] at hg
     have k4:=eq_true h4
     simp -implicitDefEqProofs only[go_sem,Z1,Z2,Z3,Z4,k4]
     refine sQ ?_
     refine⟨i+1,?_,sL,aw [] ?_ ?_ rfl rfl⟩
     rotate_left
     ·exact sD
     ·exact sD
     exact⟨by omega,by omega,hg⟩
    ·rw[if_neg h4] at hg
     simp -implicitDefEqProofs only[go_sem,Z1,Z2,Z3,Z4,h4]
     refine an ?_
     refine sB ?_
     all_goals(simp[hg];done)
  ·rw[al (l:=a) (by omega)] at hg
   rcases aa ((a.length:Int)<(b.length:Int)) with h2|h2
   ·have h3:i<b.length:=by omega
    rw[aj h3,gM] at hg
    simp -implicitDefEqProofs only[go_sem,Z1,Z2,Z3,Z4,h1,h2]
    refine an ?_
    refine sB ?_
    all_goals(simp[hg];done)
   ·rw[al (l:=b) (by omega),gM] at hg
    simp -implicitDefEqProofs only[go_sem,Z1,Z2,Z3,Z4,h1,h2]
    refine an ?_
    refine sB ?_
    all_goals(simp[hg];done)
theorem WV(a b:Mod.Row):Yp [nS a.name b.name,oo a.args.length b.args.length,gM a.args b.args]=fb a b:=by
 simp only[Yp,fb]
 rcases aa (nS a.name b.name=0) with h1|h1
 ·rcases aa (oo a.args.length b.args.length=0) with h2|h2
  ·by_cases h3:gM a.args b.args=0<;>simp[h1,h2,h3]
  ·simp[h1,h2]
 ·simp[h1]
theorem nQ(a b:Mod.Row):C E.P 120 [av (qC a),av (qC b)] [] (bM (iv (fb a b)) []):=by
 refine gT (nt:=24) (rs:=[.tmp 4]) hm Tryz.func120 fun hl he cI=>?_
 refine aD [] (wO a.name b.name) ?_
 refine aD [] (Ao a.args.length b.args.length) ?_
 refine aD [] (Aq a.args b.args) ?_
 refine dN [] [2] (UN [nS a.name b.name,oo a.args.length b.args.length,gM a.args b.args]) rfl ?_ ?_ ?_
 ·exact sV
 all_goals simp -implicitDefEqProofs only[go_sem,Z1,Z2,Z3,Z4]
 refine iK ?_
 refine an ?_
 refine sB ?_
 all_goals(simp[WV];done)
theorem DU(a:Mod.Rat):C E.P 223 [av (eO a)] [] (bM (bv (!bV a)) []):=by
 refine gT (nt:=6) (rs:=[.tmp 2]) hm Tryz.func223 fun hl he cI=>?_
 refine aD [] (gI a) ?_
 refine an ?_
 exact sD
theorem HT(x:Mod.Row):C E.P 147 [av (qC x)] [] (bM (bv (kQ x)) []):=by
 refine gT (nt:=23) (rs:=[.tmp 2]) hm Tryz.func147 fun hl he cI=>?_
 refine aD [] (tE x.name) ?_
 cases h1:fE x.name
 ·simp -implicitDefEqProofs only[go_sem,Z1,Z2,Z3,Z4]
  refine an ?_
  refine sB ?_
  all_goals(simp[kQ,h1];done)
 ·rcases aa ((x.args.length:Int)≤2) with h2|h2
  ·have h2':x.args.length≤2:=by omega
   simp -implicitDefEqProofs only[go_sem,Z1,Z2,Z3,Z4,h2]
   refine aD [] (gI x.val) ?_
   cases h3:bV x.val
   ·refine sB ?_
    refine an ?_
    refine sB ?_
    all_goals(simp[kQ,h1,h2',h3];done)
   ·refine sB ?_
    refine aD [] (rD 223 [] rfl (fun n=>!bV n) x.args (fun n _=>DU n)) ?_
    refine an ?_
    refine sB ?_
    all_goals(simp[kQ,h1,h2',h3,List.all_eq_not_any_not];done)
  ·have h2':¬x.args.length≤2:=by omega
   simp -implicitDefEqProofs only[go_sem,Z1,Z2,Z3,Z4,h2]
   refine an ?_
   refine sB ?_
   all_goals(simp[kQ,h1,h2'];done)
def rU(l:List Mod.Row):Nat→Option Mod.Row
 | 0=>none
 | j+1=>l[j]?
theorem Dz(m:Mod.Model):C E.P 72 [av (eL m)] [] (bM (bv (e7 m)) []):=by
 refine gT (nt:=36) (rs:=[.tmp 2]) hm Tryz.func72 fun hl he cI=>?_
 rcases aa ((40:Int)<(m.rows.length:Int)) with h0|h0
 ·have h0':¬m.rows.length≤40:=by omega
  simp -implicitDefEqProofs only[go_sem,Z1,Z2,Z3,Z4,h0]
  refine an ?_
  refine sB ?_
  all_goals(simp[e7,h0'];done)
 ·have hmo:e7 m=uI none m.rows:=by
   have h0':m.rows.length≤40:=by omega
   simp[e7,h0']
  simp -implicitDefEqProofs only[go_sem,Z1,Z2,Z3,Z4,h0]
  refine aO hm (fun(i:Nat)=> i≤m.rows.length∧uI none m.rows=uI (rU m.rows i) (m.rows.drop i)) (fun(i:Nat)=> ⟨dB 36 .any [(1,.ptr 0 0),(10,lv (bT m.rows)),(11,iv m.rows.length),(12,iv i)],[some (.box (cF (eL m)))]⟩) (fun(i:Nat)=> m.rows.length-i) (0) ?_ (aw [some 0] ?_ ?_ rfl rfl) ?_
  rotate_left
  ·exact sD
  ·exact sD
  rotate_left
  ·simp[rU]
  ·rintro i ⟨hi,hg⟩
   rcases aa (i<m.rows.length) with h1|h1
   ·rw[aj h1] at hg
    simp only[uI] at hg
    simp -implicitDefEqProofs only[go_sem,Z1,Z2,Z3,Z4,h1]
    refine aD [] (HT m.rows[i]) ?_
    cases h2:kQ m.rows[i]
    ·have e:e7 m=false:=by rw[hmo,hg,h2];simp
     refine sB ?_
     refine iK ?_
     refine an ?_
     refine sB ?_
     all_goals(simp[e];done)
    ·rw[h2,aM] at hg
     cases i with
     | zero=>
       simp only[rU,aM] at hg
       simp -implicitDefEqProofs only[go_sem,Z1,Z2,Z3,Z4,Int.lt_irrefl]
       refine iK ?_
       refine sQ ?_
       refine⟨0+1,?_,sL,aw [some 0] ?_ ?_ rfl rfl⟩
       rotate_left
       ·refine sB ?_
        all_goals(simp[aq, *];done)
       ·exact sD
       refine⟨by omega,?_⟩
       rw[hg]
       simp[rU,h1]
     | succ j=>
       have hj:j<m.rows.length:=by omega
       have e1:((j:Int)+1-1)=(j:Int):=by omega
       have e2:(0:Int)<(j:Int)+1:=by omega
       have et:((j:Int)+1).toNat=j+1:=by omega
       have e3:rU m.rows (j+1)=some m.rows[j]:=by simp[rU,hj]
       rw[e3] at hg
       simp only at hg
       simp -implicitDefEqProofs only[go_sem,Z1,Z2,Z3,Z4,e1,e2,et,hj,h1]
       refine sQ ?_
       refine aD [] (nQ m.rows[j] m.rows[j+1]) ?_
       refine iK ?_
       rcases aa (0≤fb m.rows[j] m.rows[j+1]) with q4|q4
       ·have q5:¬fb m.rows[j] m.rows[j+1]<0:=by omega
        have e:e7 m=false:=by rw[hmo,hg];simp[q5]
        simp -implicitDefEqProofs only[go_sem,Z1,Z2,Z3,Z4,q4]
        refine an ?_
        refine sB ?_
        all_goals(simp[e];done)
       ·have q5:fb m.rows[j] m.rows[j+1]<0:=by omega
        simp -implicitDefEqProofs only[go_sem,Z1,Z2,Z3,Z4,q4]
        refine sQ ?_
        refine⟨j+1+1,?_,sL,aw [some 0] ?_ ?_ rfl rfl⟩
        rotate_left
        ·exact sD
        ·exact sD
        refine⟨by omega,?_⟩
        rw[hg]
        simp[rU,h1,q5]
   ·rw[al (by omega)] at hg
    simp only[uI] at hg
    simp -implicitDefEqProofs only[go_sem,Z1,Z2,Z3,Z4,h1]
    refine an ?_
    refine sB ?_
    all_goals(simp[hmo,hg];done)
end Go.Proofs.YtabembjmeobhoaaGreat
