/-
  The law FnBothLins, walked: whatever it is given, it answers yes. A step towards the law.
-/
import Derived.Test.YtpidddienjoleaaGreatKDze
import Derived.Test.YtpidddienjoleaaGreatKDzj
import Derived.Test.YtpidddienjoleaaGreatKDzi
import Derived.Test.YtpidddienjoleaaGreatKDzf
import Derived.Test.YtpidddienjoleaaGreatKDd
import Derived.Test.YtpidddienjoleaaGreatKDEm
set_option linter.unusedVariables false
set_option linter.unusedSimpArgs false
namespace Go.Proofs.YtpidddienjoleaaGreat
open Go.Eng Go.Mod
open Int renaming reduceEq→Z1,reduceLT→Z2,reduceLE→Z3,reduceToNat→Z4
set_option maxRecDepth 100000
set_option maxHeartbeats 3200000
theorem qu(l:eQ):C E.P 23 [av (cX l),av (cX l)] [] (aO (bv true) []):=by
 have ce:=v7 l.an l.an
 rw[decide_eq_true rfl] at ce
 refine gS (nt:=24) (rs:=[.tmp 4]) hm Tryz.func23 fun hl he hLB=>?_
 refine aC [] ce ?_
 refine ab ?_
 exact sC
theorem xQ(b:List Int)(hb:∀x∈b,0≤x∧x≤255):C E.P 5 [lv (JG b)] [] (aO (bv true) []):=by
 refine gS (nt:=110) (rs:=[.tmp 2]) hm Tryz.func5 fun hl he hLB=>?_
 rcases Classical.em ((1048576:Int)<(b.length:Int)) with h0|h0
 ·simp -implicitDefEqProofs only[go_sem,h0]
  refine ab ?_
  exact sC
 ·have cD:=qy b hb (by omega)
  generalize FM (b.take 2000)=g at cD
  obtain⟨s,lits⟩:=g
  simp only at cD
  have c1:=wF s lits
  have c2:=wV s lits
  have c3:=xe s lits
  have c4:=wL s lits
  have cr:=yN MZ s lits
  have hfar:=fun hc=>KB (s:=s) (lits:=lits) hc
  have hyes:=fun hc=>Ng (s:=s) (lits:=lits) hc
  have hn4:(eC s lits).length≤4:=by
   unfold eC
   split
   ·rename_i hok
    exact(ju hok).2.2.1
   ·simp
  have hsrt:∀t∈eC s lits,(bp s t).isSome=true:=fun t ht=>by
   unfold eC at ht
   split at ht
   ·rename_i hok
    exact sW hok t (jv t ht)
   ·simp at ht
  have hl20:(fV s lits).length≤1000:=by
   unfold fV
   split
   ·rename_i hok
    have h6:=(ju hok).2.2.2.1
    have:=nG (numsOf s lits) lits
    omega
   ·simp
  generalize fG s lits=r at cr hfar hyes
  simp -implicitDefEqProofs only[go_sem,h0]
  refine aC [] cD ?_
  refine aC [] c1 ?_
  refine aC [] c2 ?_
  refine aC [] c3 ?_
  refine aC [] c4 ?_
  generalize fV s lits=ls at *
  generalize eC s lits=ns at *
  refine au hm (fun(i:Nat)=> i≤ls.length) (fun(i:Nat)=> ⟨b9 110 .any [(3,.ptr 0 0),(4,lv (ay lits)),(5,lv (bh ls)),(6,lv (bh ls)),(7,lv (aj ns)),(8,lv (aj ns)),(9,iv i)],[some (.box (bn (bF s)))]⟩) (fun(i:Nat)=> ls.length-i) (0) ?_ (ah [some 0] ?_ ?_ rfl rfl) ?_
  rotate_left
  ·exact sC
  ·exact sC
  rotate_left
  ·omega
  ·rintro i hi
   rcases Classical.em (i<ls.length) with h1|h1
   ·have cl1:=qu ls[i]
    simp -implicitDefEqProofs only[go_sem,h1]
    refine aC [] cl1 ?_
    refine iK ?_
    repeat(with_reducible apply And.intro;exact sO)
    refine⟨i+1,?_,?_,ah [some 0] ?_ ?_ rfl rfl⟩
    rotate_left
    ·show _ < _
     omega
    ·exact sC
    ·exact sC
    exact h1
   ·simp -implicitDefEqProofs only[go_sem,h1]
    refine aC [] cr ?_
    rcases Classical.em (r.code=0) with h9|h9
    ·have k9:=eq_true h9
     have hmo:de s r.model=true:=by
      have:=hyes h9
      simp only[c6,Bool.and_eq_true] at this
      exact this.1
     have hF:=hfar h9
     have cF:=qU ls (cP s r.model ns)
     rw[hF] at cF
     simp -implicitDefEqProofs only[go_sem,k9]
     refine au hm (fun(k:Nat)=> k≤4) (fun(k:Nat)=> ⟨b9 110 .any [(3,.ptr 0 0),(5,lv (bh ls)),(7,lv (aj ns)),(8,lv (aj ns)),(10,.ptr 1 0),(13,.acc 2),(14,iv k)],[some (.box (bn (bF s))),some (.box (bn (eO r.model))),some (.acc 57 (aM ((cP s r.model ns).take k)))]⟩) (fun(k:Nat)=> 4-k) (0) ?_ (ah [some 0,some 1,some 3] ?_ ?_ rfl rfl) ?_
     rotate_left
     ·exact sC
     ·exact sC
     rotate_left
     ·omega
     ·rintro k hk
      rcases Classical.em ((k:Int)<4) with h2|h2
      ·have hkl:k<(cP s r.model ns).length:=by simp[cP];omega
       have hs:aM ((cP s r.model ns).take (k+1))=aM ((cP s r.model ns).take k)++[dp (cP s r.model ns)[k]]:=by
        rw[gO hkl,←pS]
        rfl
       rcases Classical.em (k<ns.length) with h3|h3
       ·have he:(cP s r.model ns)[k]=value r.model ns[k]:=by
         simp[cP,h3]
        have tA:=fj ns[k] ns[k]
        rw[decide_eq_true rfl] at tA
        have mA:=vr s r.model ns[k] (hsrt _ (List.getElem_mem h3)) hmo
        rw[he] at hs
        simp -implicitDefEqProofs only[go_sem,h2,h3]
        refine cL [] tA ?_ ?_<;>simp -implicitDefEqProofs only[go_sem,h3]
        refine iK ?_
        refine aC [] mA ?_
        refine iK ?_
        repeat(with_reducible apply And.intro;exact sO)
        refine⟨k+1,?_,?_,ah [some 0,some 1,some 4] ?_ ?_ rfl rfl⟩
        rotate_left
        ·show _ < _
         omega
        ·exact sC
        ·refine sA ?_
         all_goals((rw[hs];rfl))
        omega
       ·have he:(cP s r.model ns)[k]=whole 0:=by
         simp[cP,h3]
        rw[he] at hs
        simp -implicitDefEqProofs only[go_sem,h2,h3]
        repeat(with_reducible apply And.intro;exact sO)
        refine⟨k+1,?_,?_,ah [some 0,some 1,some 4] ?_ ?_ rfl rfl⟩
        rotate_left
        ·show _ < _
         omega
        ·exact sC
        ·refine sA ?_
         all_goals((rw[hs];rfl))
        omega
      ·obtain rfl:k=4:=by omega
       have ht:(cP s r.model ns).take 4=cP s r.model ns:=List.take_of_length_le (by simp[cP])
       rw[ht]
       simp -implicitDefEqProofs only[go_sem,Z2]
       refine oC [] [2] (KR (e:=57) (args:=[lv (bh ls),.acc 0]) (lR.cons (Vw.same rfl) (lR.cons (Vw.acc rfl rfl) lR.nil)) rfl cF) ?_
       refine ab ?_
       exact sC
    ·simp -implicitDefEqProofs only[go_sem,h9]
     refine ab ?_
     exact sC
end Go.Proofs.YtpidddienjoleaaGreat
