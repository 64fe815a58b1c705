/-
  The reference: the walks of formulas. A step towards the exact laws.
-/
import Derived.Test.YtgpjhjalfakpoaaGreatKAP
set_option linter.unusedVariables false
set_option linter.unusedSimpArgs false
open Bool renaming true_and→ay,false_and→aI,and_true→eb
open Classical renaming em→aa
open List renaming drop_eq_getElem_cons→af,drop_of_length_le→ag,getElem_mem→ai,take_of_length_le→ao,length_take→aO
open Nat renaming mul_le_mul_right→aW,one_le_two_pow→bC
namespace Go.Proofs.YtgpjhjalfakpoaaGreat
open Go.Eng Go.Mod
open Int renaming reduceEq→Z1,reduceLT→Z2,reduceLE→Z3,reduceToNat→Z4
set_option maxRecDepth 100000
set_option maxHeartbeats 800000
theorem ka(a b:Atom):(a=b)=(a.kind=b.kind∧a.A=b.A∧a.B=b.B∧a.aM=b.aM∧a.times=b.times∧a.bound=b.bound∧a.strict=b.strict):=by
 cases a;cases b;simp only[Atom.mk.injEq]
theorem nQ(a b:Atom):C E.P 142 [av (dJ a),av (dJ b)] [] (bB (bv (decide (a=b))) []):=by
 refine gS (nt:=97) (rs:=[.tmp 4]) hm Tryz.func142 fun hl he cx=>?_
 rcases aa (a.kind=b.kind) with h1|h1
 rotate_left
 ·refine uA ?_
  refine al ?_
  refine sA ?_
  all_goals(simp[ka,h1];done)
 have k1:=eq_true h1
 simp -implicitDefEqProofs only[go_sem,k1]
 refine aC [] (iI a.A b.A) ?_
 rcases aa (a.A=b.A) with h2|h2
 rotate_left
 ·refine uB ?_
  refine al ?_
  refine sA ?_
  all_goals(simp[ka,h2];done)
 have k2:=eq_true h2
 simp -implicitDefEqProofs only[go_sem,k2]
 refine aC [] (iI a.B b.B) ?_
 rcases aa (a.B=b.B) with h3|h3
 rotate_left
 ·refine uC ?_
  refine al ?_
  refine sA ?_
  all_goals(simp[ka,h3];done)
 have k3:=eq_true h3
 simp -implicitDefEqProofs only[go_sem,k3]
 rcases aa (a.aM.length=b.aM.length) with h4|h4
 rotate_left
 ·have e:¬a.aM=b.aM:=fun hh=>h4 (by rw[hh])
  refine uD ?_
  refine al ?_
  refine sA ?_
  all_goals(simp[ka,e];done)
 have k4:=eq_true h4
 simp -implicitDefEqProofs only[go_sem,k4]
 rcases aa (a.times.length=b.times.length) with h5|h5
 rotate_left
 ·have e:¬a.times=b.times:=fun hh=>h5 (by rw[hh])
  refine uE ?_
  refine al ?_
  refine sA ?_
  all_goals(simp[ka,e];done)
 have k5:=eq_true h5
 simp -implicitDefEqProofs only[go_sem,k5]
 rcases aa (a.bound=b.bound) with h6|h6
 rotate_left
 ·simp -implicitDefEqProofs only[go_sem,h6]
  refine al ?_
  refine sA ?_
  all_goals(simp[ka,h6];done)
 have k6:=eq_true h6
 simp -implicitDefEqProofs only[go_sem,k6]
 rcases aa (a.strict=b.strict) with h7|h7
 rotate_left
 ·have h7':(a.strict == b.strict)=false:=by simpa using h7
  simp -implicitDefEqProofs only[go_sem,h7']
  refine al ?_
  refine sA ?_
  all_goals(simp[ka,h7];done)
 have h7':(a.strict == b.strict)=true:=by simpa using h7
 simp -implicitDefEqProofs only[go_sem,h7']
 refine aG hm (fun(i:Nat)=> i≤a.aM.length∧(a.aM=b.aM↔a.aM.drop i=b.aM.drop i)) (fun(i:Nat)=> ⟨eE 97 .any [(2,.ptr 0 0),(3,.ptr 1 0),(5,iv i)],[some (.box (eZ (dJ a))),some (.box (eZ (dJ b)))]⟩) (fun(i:Nat)=> a.aM.length-i) (0) ?_ (ax [some 0,some 1] ?_ ?_ rfl rfl) ?_
 rotate_left
 ·exact sC
 ·exact sC
 rotate_left
 ·simp
 ·rintro i ⟨hi,hg⟩
  rcases aa (i<a.aM.length) with q1|q1
  ·have q2:i<b.aM.length:=by omega
   rw[drop_eq q1 q2] at hg
   simp -implicitDefEqProofs only[go_sem,q1,q2]
   refine aC [] (iI a.aM[i] b.aM[i]) ?_
   refine iK ?_
   rcases aa (a.aM[i]=b.aM[i]) with q3|q3
   ·have k:=eq_true q3
    refine uG ?_
    refine sQ ?_
    refine⟨i+1,?_,sL,ax [some 0,some 1] ?_ ?_ rfl rfl⟩
    rotate_left
    ·exact sC
    ·exact sC
    refine⟨by omega,?_⟩
    rw[hg]
    simp[q3]
   ·have e:¬a.aM=b.aM:=fun hh=>q3 (hg.1 hh).1
    simp -implicitDefEqProofs only[go_sem,q3]
    refine al ?_
    refine sA ?_
    all_goals(simp[ka,e];done)
  ·rw[ag (by omega),ag (by omega)] at hg
   have h8:a.aM=b.aM:=hg.2 rfl
   simp -implicitDefEqProofs only[go_sem,q1]
   refine aG hm (fun(j:Nat)=> j≤a.times.length∧(a.times=b.times↔a.times.drop j=b.times.drop j)) (fun(j:Nat)=> ⟨eE 97 .any [(2,.ptr 0 0),(3,.ptr 1 0),(6,iv j)],[some (.box (eZ (dJ a))),some (.box (eZ (dJ b)))]⟩) (fun(j:Nat)=> a.times.length-j) (0) ?_ (ax [some 0,some 1] ?_ ?_ rfl rfl) ?_
   rotate_left
   ·exact sC
   ·exact sC
   rotate_left
   ·simp
   ·rintro j ⟨hj,hk⟩
    rcases aa (j<a.times.length) with q1' | q1'
    ·have q2:j<b.times.length:=by omega
     rw[drop_eq q1' q2] at hk
     rcases aa (a.times[j]=b.times[j]) with q3|q3
     ·have k:=eq_true q3
      simp -implicitDefEqProofs only[go_sem,q1',q2,k]
      refine iK ?_
      refine sQ ?_
      refine⟨j+1,?_,sL,ax [some 0,some 1] ?_ ?_ rfl rfl⟩
      rotate_left
      ·exact sC
      ·exact sC
      refine⟨by omega,?_⟩
      rw[hk]
      simp[q3]
     ·have e:¬a.times=b.times:=fun hh=>q3 (hk.1 hh).1
      simp -implicitDefEqProofs only[go_sem,q1',q2,q3]
      refine iK ?_
      refine al ?_
      refine sA ?_
      all_goals(simp[ka,e];done)
    ·rw[ag (by omega),ag (by omega)] at hk
     simp -implicitDefEqProofs only[go_sem,q1']
     refine al ?_
     refine sA ?_
     all_goals(simp[ka,h1,h2,h3,h8,h6,h7,hk];done)
theorem w5(l:fh):C E.P 92 [av (C0 l)] [] (bB (bv (ld l)) []):=by
 refine gS (nt:=12) (rs:=[.tmp 2]) hm Tryz.func92 fun hl he cx=>?_
 cases h1:l.no
 ·have hc:=nQ l.atom tP
  refine sA ?_
  refine e7 [] hc ?_ ?_<;>simp -implicitDefEqProofs only[go_sem]
  ·exact⟨rfl,rfl,rfl,rfl,rfl,rfl,rfl,rfl,rfl⟩
  refine al ?_
  refine sA ?_
  all_goals(simp[ld,h1];done)
 ·refine sA ?_
  refine al ?_
  refine sA ?_
  all_goals(simp[ld,h1];done)
theorem pY(k:Int):C E.P 90 [iv k] [] (bB (iv (cw k)) []):=by
 refine gS (nt:=13) (rs:=[.tmp 2]) hm Tryz.func90 fun hl he cx=>?_
 rcases aa (k=1) with h1|h1
 ·have q:=eq_true h1
  simp -implicitDefEqProofs only[go_sem,q]
  refine al ?_
  refine sA ?_
  all_goals(simp[cw,h1];done)
 rcases aa (k=2) with h2|h2
 ·have q:=eq_true h2
  simp -implicitDefEqProofs only[go_sem,h1,q]
  refine al ?_
  refine sA ?_
  all_goals(simp[cw,h2];done)
 rcases aa (k=3) with h3|h3
 ·have q:=eq_true h3
  simp -implicitDefEqProofs only[go_sem,h1,h2,q]
  refine al ?_
  refine sA ?_
  all_goals(simp[cw,h3];done)
 rcases aa (k=4) with h4|h4
 ·have q:=eq_true h4
  simp -implicitDefEqProofs only[go_sem,h1,h2,h3,q]
  refine al ?_
  refine sA ?_
  all_goals(simp[cw,h4];done)
 rcases aa (k=5) with h5|h5
 ·have q:=eq_true h5
  simp -implicitDefEqProofs only[go_sem,h1,h2,h3,h4,q]
  refine al ?_
  refine sA ?_
  all_goals(simp[cw,h5];done)
 rcases aa (k=6) with h6|h6
 ·have q:=eq_true h6
  simp -implicitDefEqProofs only[go_sem,h1,h2,h3,h4,h5,q]
  refine al ?_
  refine sA ?_
  all_goals(simp[cw,h6];done)
 ·simp -implicitDefEqProofs only[go_sem,h1,h2,h3,h4,h5,h6]
  refine al ?_
  refine sA ?_
  all_goals(simp[cw,h1,h2,h3,h4,h5,h6];done)
theorem Bb(t:Mod.Form)(d:Nat):aJ t (d+1)=(dB t.kind t.lit t.kids&&bc t.kids d):=by cases t;rfl
theorem ve{ts:List Mod.Form}{i:Nat}(h:i<ts.length)(d:Nat):bc (ts.drop i) d=(aJ ts[i] d&&bc (ts.drop (i+1)) d):=by rw[af h,bc]
theorem uT(t:Mod.Form)(ih:∀k∈t.kids,∀d:Nat,d≤5→C E.P 46 [av (df k),iv d] [] (bB (bv (aJ k d)) []))(d:Nat)(hd:d≤5) :
 C E.P 46 [av (df t),iv d] [] (bB (bv (aJ t d)) []):=by
 cases d with
 | zero=>
   have e:aJ t 0=false:=by cases t;rfl
   have cx:=BZ
   refine CC (nt:=43) (rs:=[.tmp 4]) hm Tryz.func46 rfl rfl rfl rfl rfl (fun hl he=>?_)
   simp -implicitDefEqProofs only[go_sem,Z2] at hl⊢
   refine iK ?_
   refine al ?_
   refine sA ?_
   all_goals(simp[e];done)
 | succ d=>
   have e:=Bb t d
   unfold dB at e
   refine gS (nt:=43) (rs:=[.tmp 4]) hm Tryz.func46 fun hl he cx=>?_
   have h0:¬ (d:Int)+1<1:=by omega
   simp -implicitDefEqProofs only[go_sem,h0]
   refine aC [] (pY t.kind) ?_
   refine iK ?_
   rcases aa (cw t.kind=t.kids.length) with h1|h1
   rotate_left
   ·simp only[h1,decide_false,aI] at e
    refine uA ?_
    refine al ?_
    refine sA ?_
    all_goals(simp[e];done)
   have k1:=eq_true h1
   simp only[h1,decide_true,ay] at e
   rcases aa (t.kind=1) with h2|h2
   ·have k2:=eq_true h2
    have hz:t.kids=[]:=by
     rw[h2] at h1
     have:(t.kids.length:Int)=0:=by rw[←h1];rfl
     exact List.length_eq_zero_iff.1 (by omega)
    rw[if_pos h2,hz,bc,eb] at e
    simp -implicitDefEqProofs only[go_sem,k1,k2]
    refine aC [] (lD t.lit.atom) ?_
    refine al ?_
    refine sA ?_
    all_goals(simp[e];done)
   ·rw[if_neg h2] at e
    simp -implicitDefEqProofs only[go_sem,k1,h2]
    refine aG hm (fun(i:Nat)=> i≤t.kids.length∧bc t.kids d=bc (t.kids.drop i) d) (fun(i:Nat)=> ⟨eE 43 .any [(1,iv ((d:Int)+1)),(2,.ptr 0 0),(5,iv i)],[some (.box (eZ (df t)))]⟩) (fun(i:Nat)=> t.kids.length-i) (0) ?_ (ax [some 0] ?_ ?_ rfl rfl) ?_
    rotate_left
    ·exact sC
    ·exact sC
    rotate_left
    ·simp
    ·rintro i ⟨hi,hg⟩
     rcases aa (i<t.kids.length) with h3|h3
     ·rw[ve h3] at hg
      have e2:(d:Int)+1-1=(d:Int):=by omega
      simp -implicitDefEqProofs only[go_sem,h3,e2]
      refine sQ ?_
      have hc:=ih t.kids[i] (ai h3) d (by omega)
      refine aC [] hc ?_
      cases h4:aJ t.kids[i] d
      ·rw[h4,aI] at hg
       rw[hg,Bool.and_false] at e
       refine sA ?_
       refine al ?_
       refine sA ?_
       all_goals(simp[e];done)
      ·rw[h4,ay] at hg
       refine sA ?_
       refine sQ ?_
       refine⟨i+1,?_,sL,ax [some 0] ?_ ?_ rfl rfl⟩
       rotate_left
       ·exact sC
       ·exact sC
       exact⟨by omega,hg⟩
     ·rw[ag (by omega),bc] at hg
      rw[hg,eb] at e
      refine uC ?_
      refine aC [] (w5 t.lit) ?_
      refine al ?_
      refine sA ?_
      all_goals(simp[e];done)
theorem xb:∀(t:Mod.Form)(d:Nat),d≤5→C E.P 46 [av (df t),iv d] [] (bB (bv (aJ t d)) []):=
 Form.ind fun k x ks ih d hd=>uT (.mk k x ks) ih d hd
theorem vO{ts:List Mod.Form}{i:Nat}(h:i<ts.length)(d:Nat):bl (ts.take (i+1)) d=bl (ts.take i) d+bJ ts[i] d:=by
 have key:∀(xs:List Mod.Form),bl (xs++[ts[i]]) d=bl xs d+bJ ts[i] d:=by
  intro xs
  induction xs with
  | nil=>simp[bl]
  | cons a xs ih=>simp only[List.cons_append,bl,ih];omega
 rw[eW h,key]
theorem iB:∀{ts:List Mod.Form}{d:Nat},bc ts d=true→∀i,bc (ts.take i) d=true
 | [],_,_,i=>by simp[bc]
 | t::ts,d,h,0=>by simp[bc]
 | t::ts,d,h,i+1=>by
   simp only[bc,Bool.and_eq_true] at h
   simp only[List.take_succ_cons,bc,h.1,ay]
   exact iB h.2 i
theorem xN(t:Mod.Form)(ih:∀k∈t.kids,∀d:Nat,d≤5→aJ k d=true→C E.P 47 [av (df k),iv d] [] (bB (iv (bJ k d)) []))(d:Nat)(hd:d≤5)(hs:aJ t d=true) :
 C E.P 47 [av (df t),iv d] [] (bB (iv (bJ t d)) []):=by
 cases d with
 | zero=>cases t;simp[aJ] at hs
 | succ d=>
   have hk:=cp hs
   have e:bJ t (d+1)=1+bl t.kids d:=by cases t;rfl
   refine gS (nt:=29) (rs:=[.tmp 4]) hm Tryz.func47 fun hl he cx=>?_
   refine aG hm (fun(i:Nat)=> i≤t.kids.length) (fun(i:Nat)=> ⟨eE 29 .any [(1,iv ((d:Int)+1)),(2,.ptr 0 0),(5,iv ((1+bl (t.kids.take i) d:Nat):Int)),(6,iv i)],[some (.box (eZ (df t)))]⟩) (fun(i:Nat)=> t.kids.length-i) (0) ?_ (ax [some 0] ?_ ?_ rfl rfl) ?_
   rotate_left
   ·refine sA ?_
    all_goals(simp[bl])
   ·exact sC
   rotate_left
   ·omega
   ·rintro i hi
    have b1:=ju (t.kids.take i) d (iB hk.2.2 i)
    have b2:(t.kids.take i).length≤2:=by rw[aO];omega
    have b3:(2:Nat) ^ d≤2 ^ 5:=Nat.pow_le_pow_right (by omega) (by omega)
    have b4:(t.kids.take i).length*(2 ^ d-1)≤2*(2 ^ d-1):=aW _ b2
    rcases aa (i<t.kids.length) with h1|h1
    ·have hsk:=bt hk.2.2 _ (ai h1)
     have b5:=gl t.kids[i] d hsk
     have e2:(d:Int)+1-1=(d:Int):=by omega
     have e3:(0:Int)<(d:Int)+1:=by omega
     simp -implicitDefEqProofs only[go_sem,h1,e3,e2]
     refine sQ ?_
     have hc:=ih t.kids[i] (ai h1) d (by omega) hsk
     refine aC [] hc ?_
     refine sQ ?_
     refine⟨i+1,?_,sL,ax [some 0] ?_ ?_ rfl rfl⟩
     rotate_left
     ·refine sA ?_
      all_goals((simp only[vO h1];simp;omega))
     ·exact sC
     exact h1
    ·have et:t.kids.take i=t.kids:=ao (by omega)
     simp -implicitDefEqProofs only[go_sem,h1,et]
     refine al ?_
     refine sA ?_
     all_goals(simp[e];done)
theorem yQ:∀(t:Mod.Form)(d:Nat),d≤5→aJ t d=true→C E.P 47 [av (df t),iv d] [] (bB (iv (bJ t d)) []):=
 Form.ind fun k x ks ih d hd hs=>xN (.mk k x ks) ih d hd hs
theorem oG(xs:List Atom)(a:Atom):C E.P 96 [lv (aK xs),av (dJ a)] [] (bB (iv (bA xs a)) []):=by
 refine gS (nt:=19) (rs:=[.tmp 4]) hm Tryz.func96 fun hl he cx=>?_
 refine aG hm (fun(i:Nat)=> i≤xs.length∧bA xs a=cI (fun u=>decide (a=u)) (xs.drop i) i) (fun(i:Nat)=> ⟨eE 19 .any [(0,lv (aK xs)),(3,.ptr 0 0),(5,iv i)],[some (.box (eZ (dJ a)))]⟩) (fun(i:Nat)=> xs.length-i) (0) ?_ (ax [some 0] ?_ ?_ rfl rfl) ?_
 rotate_left
 ·exact sC
 ·exact sC
 rotate_left
 ·simp[bA,idxOf]
 ·rintro i ⟨hi,hg⟩
  rcases aa (i<xs.length) with h1|h1
  ·rw[af h1,cI] at hg
   refine uA ?_
   refine aC [] (nQ xs[i] a) ?_
   refine iK ?_
   rcases aa (xs[i]=a) with h2|h2
   ·have k:=eq_true h2
    simp only[h2,decide_true,if_true] at hg
    refine uG ?_
    refine al ?_
    refine sA ?_
    all_goals(simp[hg];done)
   ·have h3:¬a=xs[i]:=fun h=>h2 h.symm
    simp only[h3,decide_false,Bool.false_eq_true,if_false] at hg
    refine uB ?_
    refine sQ ?_
    refine⟨i+1,?_,sL,ax [some 0] ?_ ?_ rfl rfl⟩
    rotate_left
    ·exact sC
    ·exact sC
    exact⟨by omega,by rw[hg];rfl⟩
  ·rw[ag (by omega),cI] at hg
   refine uA ?_
   refine al ?_
   refine sA ?_
   all_goals(simp[hg];done)
def addAtom(l:List Atom)(a:Atom):List Atom:=if bA l a<0 then l++[a] else l
theorem rJ(l:List Atom)(a:Atom)(hl1:l.length≤900000):C E.P 49 [.acc 0,av (dJ a)] [some (.acc 31 (aK l))] (bB (.acc 1) [some .dead,some (.acc 31 (aK (addAtom l a)))]):=by
 refine gS (nt:=14) (rs:=[.tmp 4]) hm Tryz.func49 fun hl he cx=>?_
 refine iO [] [0] (oG l a) rfl ?_ ?_ ?_
 ·exact sV
 all_goals simp -implicitDefEqProofs only[go_sem]
 rcases aa (0≤bA l a) with hx|hx
 ·have hx':¬bA l a<0:=by omega
  simp -implicitDefEqProofs only[go_sem,hx]
  refine bu [some 0,some 0] ?_ rfl rfl
  refine sA ?_
  rw[addAtom,if_neg hx']
 ·have hx':bA l a<0:=by omega
  simp -implicitDefEqProofs only[go_sem,hx]
  refine sQ ?_
  refine bu [some 0,some 2] ?_ rfl rfl
  refine sA ?_
  rw[addAtom,if_pos hx',←kR,mD,kZ]
  rfl
theorem sG(a:Atom):C E.P 49 [.aY,av (dJ a)] [] (bB (.acc 0) [some (.acc 31 (aK [a]))]):=by
 refine gS (nt:=14) (rs:=[.tmp 4]) hm Tryz.func49 fun hl he cx=>?_
 refine aC [] (oG [] a) ?_
 have hx:¬0≤bA [] a:=by rw[hG];simp
 simp -implicitDefEqProofs only[go_sem,hx]
 refine sQ ?_
 refine bu [some 1] ?_ rfl rfl
 refine sA ?_
 rfl
theorem w6{t:Mod.Form}{d:Nat}{l:List Atom}(hsh:aJ t (d+1)=true)(hl1:l.length+2 ^ (d+1)≤900000)(i:Nat)(hi:i<t.kids.length):(aS l (t.kids.take i)).length+2 ^ d≤900000:=by
 have hk:=cp hsh
 have hp:(2:Nat) ^ (d+1)=2*2 ^ d:=by rw[Nat.pow_succ];omega
 have hp1:1≤(2:Nat) ^ d:=bC
 have h1:=jz (t.kids.take i) d l (iB hk.2.2 i)
 have h2:=ju (t.kids.take i) d (iB hk.2.2 i)
 have h3:(t.kids.take i).length≤1:=by rw[aO];omega
 have h4:(t.kids.take i).length*(2 ^ d-1)≤1*(2 ^ d-1):=aW _ h3
 omega
theorem uP(t:Mod.Form)(ih:∀k∈t.kids,∀(d:Nat)(l:List Atom),aJ k d=true→l.length+2 ^ d≤900000→C E.P 22 [.acc 0,av (df k)] [some (.acc 31 (aK l))] (bB (.acc 1) [some .dead,some (.acc 31 (aK (withAtoms l k)))]))(d:Nat)(l:List Atom)
 (hsh:aJ t d=true) (hl1:l.length+2 ^ d≤900000) :
 C E.P 22 [.acc 0,av (df t)] [some (.acc 31 (aK l))] (bB (.acc 1) [some .dead,some (.acc 31 (aK (withAtoms l t)))]):=by
 cases d with
 | zero=>cases t;simp[aJ] at hsh
 | succ d=>
 have hk:=cp hsh
 have hroom:=w6 hsh hl1
 have hp1:1≤(2:Nat) ^ (d+1):=bC
 refine gS (nt:=29) (rs:=[.tmp 4]) hm Tryz.func22 fun hl he cx=>?_
 rcases aa (t.kind=1) with hkind|hkind
 ·have kk:=eq_true hkind
  simp -implicitDefEqProofs only[go_sem,kk]
  refine oC [] [0,2] (rJ l t.lit.atom (by omega)) ?_
  refine bu [some 0,some 2] ?_ rfl rfl
  refine sA ?_
  rw[dC,if_pos hkind,addAtom]
 ·simp -implicitDefEqProofs only[go_sem,hkind]
  refine aG hm (fun(i:Nat)=> i≤t.kids.length) (fun(i:Nat)=> ⟨eE 29 .any [(0,.acc 2),(3,.ptr 1 0),(5,iv i)],[some .dead,some (.box (eZ (df t))),some (.acc 31 (aK (aS l (t.kids.take i))))]⟩) (fun(i:Nat)=> t.kids.length-i) (0) ?_ (ax [some 0,some 1,some 0] ?_ ?_ rfl rfl) ?_
  rotate_left
  ·exact sC
  ·refine sA ?_
   all_goals(simp only[aS])
  rotate_left
  ·omega
  ·rintro i hi
   rcases aa (i<t.kids.length) with h1|h1
   ·refine uA ?_
    have hc:=ih t.kids[i] (ai h1) d (aS l (t.kids.take i)) (bt hk.2.2 _ (ai h1)) (hroom i h1)
    refine oC [] [2,3] hc ?_
    refine sQ ?_
    refine⟨i+1,?_,sL,ax [some 0,some 1,some 3] ?_ ?_ rfl rfl⟩
    rotate_left
    ·exact sC
    ·refine sA ?_
     all_goals(simp only[fm h1])
    exact h1
   ·have e:t.kids.take i=t.kids:=ao (by omega)
    simp -implicitDefEqProofs only[go_sem,h1,e]
    refine bu [some 0,some 2] ?_ rfl rfl
    refine sA ?_
    rw[dC,if_neg hkind]
theorem vU:∀(t:Mod.Form)(d:Nat)(l:List Atom),aJ t d=true→l.length+2 ^ d≤900000→C E.P 22 [.acc 0,av (df t)] [some (.acc 31 (aK l))] (bB (.acc 1) [some .dead,some (.acc 31 (aK (withAtoms l t)))]):=
 Form.ind fun k x ks ih d l h1 h2=>uP (.mk k x ks) ih d l h1 h2
theorem lu(t:Mod.Form)(hsh:aJ t 5=true):C E.P 22 [.aY,av (df t)] [] (bB (lv (aK (withAtoms [] t))) []):=by
 have hk:=cp hsh
 have hroom:=w6 (l:=[]) hsh (by simp)
 refine gS (nt:=29) (rs:=[.tmp 4]) hm Tryz.func22 fun hl he cx=>?_
 rcases aa (t.kind=1) with hkind|hkind
 ·have kk:=eq_true hkind
  simp -implicitDefEqProofs only[go_sem,kk]
  refine oC [] [1] (sG t.lit.atom) ?_
  refine al ?_
  refine sA ?_
  rw[dC,if_pos hkind]
  rfl
 ·simp -implicitDefEqProofs only[go_sem,hkind]
  refine aG hm (fun(i:Nat)=> i≤t.kids.length) (fun(i:Nat)=> ⟨eE 29 .any [(0,.acc 1),(3,.ptr 0 0),(5,iv i)],[some (.box (eZ (df t))),some (.acc 31 (aK (aS [] (t.kids.take i))))]⟩) (fun(i:Nat)=> t.kids.length-i) (0) ?_ (ax [some 0,none] ?_ ?_ rfl rfl) ?_
  rotate_left
  ·exact sC
  ·refine sA ?_
   all_goals(simp[aS,aK])
  rotate_left
  ·omega
  ·rintro i hi
   rcases aa (i<t.kids.length) with h1|h1
   ·refine uA ?_
    have hc:=vU t.kids[i] 4 (aS [] (t.kids.take i)) (bt hk.2.2 _ (ai h1)) (hroom i h1)
    refine oC [] [1,2] hc ?_
    refine sQ ?_
    refine⟨i+1,?_,sL,ax [some 0,some 2] ?_ ?_ rfl rfl⟩
    rotate_left
    ·exact sC
    ·refine sA ?_
     all_goals(simp only[fm h1])
    exact h1
   ·have e:t.kids.take i=t.kids:=ao (by omega)
    simp -implicitDefEqProofs only[go_sem,h1,e]
    refine al ?_
    refine sA ?_
    rw[dC,if_neg hkind]
theorem xG(t:Mod.Form):C E.P 19 [av (df t)] [] (bB (bv (eC t)) []):=by
 have e:=y4 t
 unfold zW at e
 refine gS (nt:=16) (rs:=[.tmp 2]) hm Tryz.func19 fun hl he cx=>?_
 have hc:=xb t 5 (by omega)
 refine aC [] hc ?_
 cases h:aJ t 5
 ·refine sA ?_
  refine al ?_
  refine sA ?_
  all_goals(simp[←e,h];done)
 ·have hc:=yQ t 5 (by omega) h
  refine sA ?_
  refine aC [] hc ?_
  rcases aa ((bJ t 5:Int)≤10) with h2|h2
  ·have h2':bJ t 5≤10:=by omega
   refine uB ?_
   refine aC [] (lu t h) ?_
   refine al ?_
   refine sA ?_
   rw[←e,h]
   simp[h2']
   omega
  ·have h2':¬bJ t 5≤10:=by omega
   refine uB ?_
   refine al ?_
   refine sA ?_
   all_goals(simp[←e,h,h2'];done)
theorem yi(l:List Atom)(hl1:l.length≤900000):C E.P 21 [lv (aK l)] [] (bB (lv (cE (plain l))) []):=by
 refine gS (nt:=21) (rs:=[.tmp 2]) hm Tryz.func21 fun hl he cx=>?_
 refine aG hm (fun(i:Nat)=> i≤l.length) (fun(i:Nat)=> ⟨eE 21 .any [(0,lv (aK l)),(3,.acc 0),(4,iv i)],[some (.acc 33 (cE (plain (l.take i))))]⟩) (fun(i:Nat)=> l.length-i) (0) ?_ (ax [some 0] ?_ ?_ rfl rfl) ?_
 rotate_left
 ·exact sC
 ·refine sA ?_
  all_goals(simp[plain,cE])
 rotate_left
 ·omega
 ·rintro i hi
  have hv:=tc (l.take i)
  have jH:(l.take i).length=i:=by rw[aO];omega
  rcases aa (i<l.length) with h1|h1
  ·refine uA ?_
   refine sQ ?_
   refine⟨i+1,?_,sL,ax [some 1] ?_ ?_ rfl rfl⟩
   rotate_left
   ·exact sC
   ·refine sA ?_
    all_goals((rw[qe h1,←og];rfl))
   exact h1
  ·have et:l.take i=l:=ao (by omega)
   simp -implicitDefEqProofs only[go_sem,h1,et]
   refine al ?_
   exact sC
theorem yg(s:eD)(t:Mod.Form):C E.P 7 [av (c8 s),av (df t)] [] (bB (bv (kC s t)) []):=by
 refine gT (nt:=14) (rs:=[.tmp 4]) hm Tryz.func7 fun hl he cx=>?_
 refine aD [] (xG t) ?_
 refine sI ?_
 cases h1:eC t
 ·try simp -implicitDefEqProofs only[go_sem,Z1,Z2,Z3,Z4]
  refine sI ?_
  refine al ?_
  refine sB ?_
  all_goals(first|done|(simp[kC,h1];done)|(simp[kC,h1];omega)|skip)
 ·have hs:=eL h1
  try simp -implicitDefEqProofs only[go_sem,Z1,Z2,Z3,Z4]
  refine sI ?_
  refine aD [] (lu t hs.1) ?_
  refine sI ?_
  refine aD [] (yi (withAtoms [] t) (by omega)) ?_
  refine sI ?_
  refine aD [] (pP s (plain (withAtoms [] t))) ?_
  refine sI ?_
  refine al ?_
  refine sB ?_
  all_goals(first|done|(simp[kC,h1];done)|(simp[kC,h1];omega)|skip)
end Go.Proofs.YtgpjhjalfakpoaaGreat
