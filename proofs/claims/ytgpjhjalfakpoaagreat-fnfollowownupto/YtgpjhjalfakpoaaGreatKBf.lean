/-
  The reference: the walks of formulas. A step towards the exact laws.
-/
import Derived.Test.YtgpjhjalfakpoaaGreatKBP
set_option linter.unusedVariables false
set_option linter.unusedSimpArgs false
open Bool renaming true_and→az,false_and→aK,and_true→eF
open Classical renaming em→aa
open List renaming drop_eq_getElem_cons→af,drop_of_length_le→ag,getElem_mem→ah,take_of_length_le→an,length_take→aO
open Nat renaming mul_le_mul_right→aY,one_le_two_pow→bE
namespace Go.Proofs.YtgpjhjalfakpoaaGreat
open Go.Eng Go.Mod
open Int renaming reduceEq→Z1,reduceLT→Z2,reduceLE→Z3,reduceToNat→Z4
set_option maxRecDepth 100000
set_option maxHeartbeats 800000
theorem kn(a b:Atom):(a=b)=(a.kind=b.kind∧a.A=b.A∧a.B=b.B∧a.aP=b.aP∧a.times=b.times∧a.bound=b.bound∧a.strict=b.strict):=by
 cases a;cases b;simp only[Atom.mk.injEq]
theorem ot(a b:Atom):C E.P 142 [av (dS a),av (dS b)] [] (bw (bv (decide (a=b))) []):=by
 refine gS (nt:=97) (rs:=[.tmp 4]) hm Tryz.func142 fun hl he cp=>?_
 rcases aa (a.kind=b.kind) with h1|h1
 rotate_left
 ·refine uA ?_
  refine ak ?_
  refine sA ?_
  all_goals(simp[kn,h1];done)
 have k1:=eq_true h1
 simp -implicitDefEqProofs only[go_sem,k1]
 refine aC [] (iW a.A b.A) ?_
 rcases aa (a.A=b.A) with h2|h2
 rotate_left
 ·refine uB ?_
  refine ak ?_
  refine sA ?_
  all_goals(simp[kn,h2];done)
 have k2:=eq_true h2
 simp -implicitDefEqProofs only[go_sem,k2]
 refine aC [] (iW a.B b.B) ?_
 rcases aa (a.B=b.B) with h3|h3
 rotate_left
 ·refine uC ?_
  refine ak ?_
  refine sA ?_
  all_goals(simp[kn,h3];done)
 have k3:=eq_true h3
 simp -implicitDefEqProofs only[go_sem,k3]
 rcases aa (a.aP.length=b.aP.length) with h4|h4
 rotate_left
 ·have e:¬a.aP=b.aP:=fun hh=>h4 (by rw[hh])
  refine uD ?_
  refine ak ?_
  refine sA ?_
  all_goals(simp[kn,e];done)
 have k4:=eq_true h4
 simp -implicitDefEqProofs only[go_sem,k4]
 rcases aa (a.times.length=b.times.length) with h5|h5
 rotate_left
 ·have e:¬a.times=b.times:=fun hh=>h5 (by rw[hh])
  refine uE ?_
  refine ak ?_
  refine sA ?_
  all_goals(simp[kn,e];done)
 have k5:=eq_true h5
 simp -implicitDefEqProofs only[go_sem,k5]
 rcases aa (a.bound=b.bound) with h6|h6
 rotate_left
 ·simp -implicitDefEqProofs only[go_sem,h6]
  refine ak ?_
  refine sA ?_
  all_goals(simp[kn,h6];done)
 have k6:=eq_true h6
 simp -implicitDefEqProofs only[go_sem,k6]
 rcases aa (a.strict=b.strict) with h7|h7
 rotate_left
 ·have h7':(a.strict == b.strict)=false:=by simpa using h7
  simp -implicitDefEqProofs only[go_sem,h7']
  refine ak ?_
  refine sA ?_
  all_goals(simp[kn,h7];done)
 have h7':(a.strict == b.strict)=true:=by simpa using h7
 simp -implicitDefEqProofs only[go_sem,h7']
 refine aI hm (fun(i:Nat)=> i≤a.aP.length∧(a.aP=b.aP↔a.aP.drop i=b.aP.drop i)) (fun(i:Nat)=> ⟨eQ 97 .any [(2,.ptr 0 0),(3,.ptr 1 0),(5,iv i)],[some (.box (ff (dS a))),some (.box (ff (dS b)))]⟩) (fun(i:Nat)=> a.aP.length-i) (0) ?_ (ax [some 0,some 1] ?_ ?_ rfl rfl) ?_
 rotate_left
 ·exact sC
 ·exact sC
 rotate_left
 ·simp
 ·rintro i ⟨hi,hg⟩
  rcases aa (i<a.aP.length) with q1|q1
  ·have q2:i<b.aP.length:=by omega
   rw[drop_eq q1 q2] at hg
   simp -implicitDefEqProofs only[go_sem,q1,q2]
   refine aC [] (iW a.aP[i] b.aP[i]) ?_
   refine iK ?_
   rcases aa (a.aP[i]=b.aP[i]) with q3|q3
   ·have k:=eq_true q3
    refine uG ?_
    refine sQ ?_
    refine⟨i+1,?_,sL,ax [some 0,some 1] ?_ ?_ rfl rfl⟩
    rotate_left
    ·exact sC
    ·exact sC
    refine⟨by omega,?_⟩
    rw[hg]
    simp[q3]
   ·have e:¬a.aP=b.aP:=fun hh=>q3 (hg.1 hh).1
    simp -implicitDefEqProofs only[go_sem,q3]
    refine ak ?_
    refine sA ?_
    all_goals(simp[kn,e];done)
  ·rw[ag (by omega),ag (by omega)] at hg
   have h8:a.aP=b.aP:=hg.2 rfl
   simp -implicitDefEqProofs only[go_sem,q1]
   refine aI hm (fun(j:Nat)=> j≤a.times.length∧(a.times=b.times↔a.times.drop j=b.times.drop j)) (fun(j:Nat)=> ⟨eQ 97 .any [(2,.ptr 0 0),(3,.ptr 1 0),(6,iv j)],[some (.box (ff (dS a))),some (.box (ff (dS b)))]⟩) (fun(j:Nat)=> a.times.length-j) (0) ?_ (ax [some 0,some 1] ?_ ?_ rfl rfl) ?_
   rotate_left
   ·exact sC
   ·exact sC
   rotate_left
   ·simp
   ·rintro j ⟨hj,hk⟩
    rcases aa (j<a.times.length) with q1' | q1'
    ·have q2:j<b.times.length:=by omega
     rw[drop_eq q1' q2] at hk
     rcases aa (a.times[j]=b.times[j]) with q3|q3
     ·have k:=eq_true q3
      simp -implicitDefEqProofs only[go_sem,q1',q2,k]
      refine iK ?_
      refine sQ ?_
      refine⟨j+1,?_,sL,ax [some 0,some 1] ?_ ?_ rfl rfl⟩
      rotate_left
      ·exact sC
      ·exact sC
      refine⟨by omega,?_⟩
      rw[hk]
      simp[q3]
     ·have e:¬a.times=b.times:=fun hh=>q3 (hk.1 hh).1
      simp -implicitDefEqProofs only[go_sem,q1',q2,q3]
      refine iK ?_
      refine ak ?_
      refine sA ?_
      all_goals(simp[kn,e];done)
    ·rw[ag (by omega),ag (by omega)] at hk
     simp -implicitDefEqProofs only[go_sem,q1']
     refine ak ?_
     refine sA ?_
     all_goals(simp[kn,h1,h2,h3,h8,h6,h7,hk];done)
theorem xQ(l:fB):C E.P 92 [av (EZ l)] [] (bw (bv (ly l)) []):=by
 refine gS (nt:=12) (rs:=[.tmp 2]) hm Tryz.func92 fun hl he cp=>?_
 cases h1:l.no
 ·have hc:=ot l.atom uy
  refine sA ?_
  refine fm [] hc ?_ ?_<;>simp -implicitDefEqProofs only[go_sem]
  ·exact⟨rfl,rfl,rfl,rfl,rfl,rfl,rfl,rfl,rfl⟩
  refine ak ?_
  refine sA ?_
  all_goals(simp[ly,h1];done)
 ·refine sA ?_
  refine ak ?_
  refine sA ?_
  all_goals(simp[ly,h1];done)
theorem qx(k:Int):C E.P 90 [iv k] [] (bw (iv (cC k)) []):=by
 refine gS (nt:=13) (rs:=[.tmp 2]) hm Tryz.func90 fun hl he cp=>?_
 rcases aa (k=1) with h1|h1
 ·have q:=eq_true h1
  simp -implicitDefEqProofs only[go_sem,q]
  refine ak ?_
  refine sA ?_
  all_goals(simp[cC,h1];done)
 rcases aa (k=2) with h2|h2
 ·have q:=eq_true h2
  simp -implicitDefEqProofs only[go_sem,h1,q]
  refine ak ?_
  refine sA ?_
  all_goals(simp[cC,h2];done)
 rcases aa (k=3) with h3|h3
 ·have q:=eq_true h3
  simp -implicitDefEqProofs only[go_sem,h1,h2,q]
  refine ak ?_
  refine sA ?_
  all_goals(simp[cC,h3];done)
 rcases aa (k=4) with h4|h4
 ·have q:=eq_true h4
  simp -implicitDefEqProofs only[go_sem,h1,h2,h3,q]
  refine ak ?_
  refine sA ?_
  all_goals(simp[cC,h4];done)
 rcases aa (k=5) with h5|h5
 ·have q:=eq_true h5
  simp -implicitDefEqProofs only[go_sem,h1,h2,h3,h4,q]
  refine ak ?_
  refine sA ?_
  all_goals(simp[cC,h5];done)
 rcases aa (k=6) with h6|h6
 ·have q:=eq_true h6
  simp -implicitDefEqProofs only[go_sem,h1,h2,h3,h4,h5,q]
  refine ak ?_
  refine sA ?_
  all_goals(simp[cC,h6];done)
 ·simp -implicitDefEqProofs only[go_sem,h1,h2,h3,h4,h5,h6]
  refine ak ?_
  refine sA ?_
  all_goals(simp[cC,h1,h2,h3,h4,h5,h6];done)
theorem Bz(t:Mod.Form)(d:Nat):aL t (d+1)=(dM t.kind t.lit t.kids&&bc t.kids d):=by cases t;rfl
theorem vp{ts:List Mod.Form}{i:Nat}(h:i<ts.length)(d:Nat):bc (ts.drop i) d=(aL ts[i] d&&bc (ts.drop (i+1)) d):=by rw[af h,bc]
theorem vI(t:Mod.Form)(ih:∀k∈t.kids,∀d:Nat,d≤5→C E.P 46 [av (cx k),iv d] [] (bw (bv (aL k d)) []))(d:Nat)(hd:d≤5) :
 C E.P 46 [av (cx t),iv d] [] (bw (bv (aL t d)) []):=by
 cases d with
 | zero=>
   have e:aL t 0=false:=by cases t;rfl
   have cp:=CA
   refine BQ (nt:=43) (rs:=[.tmp 4]) hm Tryz.func46 rfl rfl rfl rfl rfl (fun hl he=>?_)
   simp -implicitDefEqProofs only[go_sem,Z2] at hl⊢
   refine iK ?_
   refine ak ?_
   refine sA ?_
   all_goals(simp[e];done)
 | succ d=>
   have e:=Bz t d
   unfold dM at e
   refine gS (nt:=43) (rs:=[.tmp 4]) hm Tryz.func46 fun hl he cp=>?_
   have h0:¬ (d:Int)+1<1:=by omega
   simp -implicitDefEqProofs only[go_sem,h0]
   refine aC [] (qx t.kind) ?_
   refine iK ?_
   rcases aa (cC t.kind=t.kids.length) with h1|h1
   rotate_left
   ·simp only[h1,decide_false,aK] at e
    refine uA ?_
    refine ak ?_
    refine sA ?_
    all_goals(simp[e];done)
   have k1:=eq_true h1
   simp only[h1,decide_true,az] at e
   rcases aa (t.kind=1) with h2|h2
   ·have k2:=eq_true h2
    have hz:t.kids=[]:=by
     rw[h2] at h1
     have:(t.kids.length:Int)=0:=by rw[←h1];rfl
     exact List.length_eq_zero_iff.1 (by omega)
    rw[if_pos h2,hz,bc,eF] at e
    simp -implicitDefEqProofs only[go_sem,k1,k2]
    refine aC [] (lP t.lit.atom) ?_
    refine ak ?_
    refine sA ?_
    all_goals(simp[e];done)
   ·rw[if_neg h2] at e
    simp -implicitDefEqProofs only[go_sem,k1,h2]
    refine aI hm (fun(i:Nat)=> i≤t.kids.length∧bc t.kids d=bc (t.kids.drop i) d) (fun(i:Nat)=> ⟨eQ 43 .any [(1,iv ((d:Int)+1)),(2,.ptr 0 0),(5,iv i)],[some (.box (ff (cx t)))]⟩) (fun(i:Nat)=> t.kids.length-i) (0) ?_ (ax [some 0] ?_ ?_ rfl rfl) ?_
    rotate_left
    ·exact sC
    ·exact sC
    rotate_left
    ·simp
    ·rintro i ⟨hi,hg⟩
     rcases aa (i<t.kids.length) with h3|h3
     ·rw[vp h3] at hg
      have e2:(d:Int)+1-1=(d:Int):=by omega
      simp -implicitDefEqProofs only[go_sem,h3,e2]
      refine sQ ?_
      have hc:=ih t.kids[i] (ah h3) d (by omega)
      refine aC [] hc ?_
      cases h4:aL t.kids[i] d
      ·rw[h4,aK] at hg
       rw[hg,Bool.and_false] at e
       refine sA ?_
       refine ak ?_
       refine sA ?_
       all_goals(simp[e];done)
      ·rw[h4,az] at hg
       refine sA ?_
       refine sQ ?_
       refine⟨i+1,?_,sL,ax [some 0] ?_ ?_ rfl rfl⟩
       rotate_left
       ·exact sC
       ·exact sC
       exact⟨by omega,hg⟩
     ·rw[ag (by omega),bc] at hg
      rw[hg,eF] at e
      refine uC ?_
      refine aC [] (xQ t.lit) ?_
      refine ak ?_
      refine sA ?_
      all_goals(simp[e];done)
theorem xZ:∀(t:Mod.Form)(d:Nat),d≤5→C E.P 46 [av (cx t),iv d] [] (bw (bv (aL t d)) []):=
 Form.ind fun k x ks ih d hd=>vI (.mk k x ks) ih d hd
theorem wE{ts:List Mod.Form}{i:Nat}(h:i<ts.length)(d:Nat):bn (ts.take (i+1)) d=bn (ts.take i) d+bL ts[i] d:=by
 have key:∀(xs:List Mod.Form),bn (xs++[ts[i]]) d=bn xs d+bL ts[i] d:=by
  intro xs
  induction xs with
  | nil=>simp[bn]
  | cons a xs ih=>simp only[List.cons_append,bn,ih];omega
 rw[fl h,key]
theorem iX:∀{ts:List Mod.Form}{d:Nat},bc ts d=true→∀i,bc (ts.take i) d=true
 | [],_,_,i=>by simp[bc]
 | t::ts,d,h,0=>by simp[bc]
 | t::ts,d,h,i+1=>by
   simp only[bc,Bool.and_eq_true] at h
   simp only[List.take_succ_cons,bc,h.1,az]
   exact iX h.2 i
theorem xf(t:Mod.Form)(ih:∀k∈t.kids,∀d:Nat,d≤5→aL k d=true→C E.P 47 [av (cx k),iv d] [] (bw (iv (bL k d)) []))(d:Nat)(hd:d≤5)(hs:aL t d=true) :
 C E.P 47 [av (cx t),iv d] [] (bw (iv (bL t d)) []):=by
 cases d with
 | zero=>cases t;simp[aL] at hs
 | succ d=>
   have hk:=cz hs
   have e:bL t (d+1)=1+bn t.kids d:=by cases t;rfl
   refine gS (nt:=29) (rs:=[.tmp 4]) hm Tryz.func47 fun hl he cp=>?_
   refine aI hm (fun(i:Nat)=> i≤t.kids.length) (fun(i:Nat)=> ⟨eQ 29 .any [(1,iv ((d:Int)+1)),(2,.ptr 0 0),(5,iv ((1+bn (t.kids.take i) d:Nat):Int)),(6,iv i)],[some (.box (ff (cx t)))]⟩) (fun(i:Nat)=> t.kids.length-i) (0) ?_ (ax [some 0] ?_ ?_ rfl rfl) ?_
   rotate_left
   ·refine sA ?_
    all_goals(simp[bn])
   ·exact sC
   rotate_left
   ·omega
   ·rintro i hi
    have b1:=jJ (t.kids.take i) d (iX hk.2.2 i)
    have b2:(t.kids.take i).length≤2:=by rw[aO];omega
    have b3:(2:Nat) ^ d≤2 ^ 5:=Nat.pow_le_pow_right (by omega) (by omega)
    have b4:(t.kids.take i).length*(2 ^ d-1)≤2*(2 ^ d-1):=aY _ b2
    rcases aa (i<t.kids.length) with h1|h1
    ·have hsk:=bx hk.2.2 _ (ah h1)
     have b5:=gA t.kids[i] d hsk
     have e2:(d:Int)+1-1=(d:Int):=by omega
     have e3:(0:Int)<(d:Int)+1:=by omega
     simp -implicitDefEqProofs only[go_sem,h1,e3,e2]
     refine sQ ?_
     have hc:=ih t.kids[i] (ah h1) d (by omega) hsk
     refine aC [] hc ?_
     refine sQ ?_
     refine⟨i+1,?_,sL,ax [some 0] ?_ ?_ rfl rfl⟩
     rotate_left
     ·refine sA ?_
      all_goals((simp only[wE h1];simp;omega))
     ·exact sC
     exact h1
    ·have et:t.kids.take i=t.kids:=an (by omega)
     simp -implicitDefEqProofs only[go_sem,h1,et]
     refine ak ?_
     refine sA ?_
     all_goals(simp[e];done)
theorem zf:∀(t:Mod.Form)(d:Nat),d≤5→aL t d=true→C E.P 47 [av (cx t),iv d] [] (bw (iv (bL t d)) []):=
 Form.ind fun k x ks ih d hd hs=>xf (.mk k x ks) ih d hd hs
theorem pj(xs:List Atom)(a:Atom):C E.P 96 [lv (aJ xs),av (dS a)] [] (bw (iv (bD xs a)) []):=by
 refine gS (nt:=19) (rs:=[.tmp 4]) hm Tryz.func96 fun hl he cp=>?_
 refine aI hm (fun(i:Nat)=> i≤xs.length∧bD xs a=cL (fun u=>decide (a=u)) (xs.drop i) i) (fun(i:Nat)=> ⟨eQ 19 .any [(0,lv (aJ xs)),(3,.ptr 0 0),(5,iv i)],[some (.box (ff (dS a)))]⟩) (fun(i:Nat)=> xs.length-i) (0) ?_ (ax [some 0] ?_ ?_ rfl rfl) ?_
 rotate_left
 ·exact sC
 ·exact sC
 rotate_left
 ·simp[bD,idxOf]
 ·rintro i ⟨hi,hg⟩
  rcases aa (i<xs.length) with h1|h1
  ·rw[af h1,cL] at hg
   refine uA ?_
   refine aC [] (ot xs[i] a) ?_
   refine iK ?_
   rcases aa (xs[i]=a) with h2|h2
   ·have k:=eq_true h2
    simp only[h2,decide_true,if_true] at hg
    refine uG ?_
    refine ak ?_
    refine sA ?_
    all_goals(simp[hg];done)
   ·have h3:¬a=xs[i]:=fun h=>h2 h.symm
    simp only[h3,decide_false,Bool.false_eq_true,if_false] at hg
    refine uB ?_
    refine sQ ?_
    refine⟨i+1,?_,sL,ax [some 0] ?_ ?_ rfl rfl⟩
    rotate_left
    ·exact sC
    ·exact sC
    exact⟨by omega,by rw[hg];rfl⟩
  ·rw[ag (by omega),cL] at hg
   refine uA ?_
   refine ak ?_
   refine sA ?_
   all_goals(simp[hg];done)
def addAtom(l:List Atom)(a:Atom):List Atom:=if bD l a<0 then l++[a] else l
theorem r7(l:List Atom)(a:Atom)(hl1:l.length≤900000):C E.P 49 [.acc 0,av (dS a)] [some (.acc 31 (aJ l))] (bw (.acc 1) [some .dead,some (.acc 31 (aJ (addAtom l a)))]):=by
 refine gS (nt:=14) (rs:=[.tmp 4]) hm Tryz.func49 fun hl he cp=>?_
 refine ja [] [0] (pj l a) rfl ?_ ?_ ?_
 ·exact sV
 all_goals simp -implicitDefEqProofs only[go_sem]
 rcases aa (0≤bD l a) with hx|hx
 ·have hx':¬bD l a<0:=by omega
  simp -implicitDefEqProofs only[go_sem,hx]
  refine bh [some 0,some 0] ?_ rfl rfl
  refine sA ?_
  rw[addAtom,if_neg hx']
 ·have hx':bD l a<0:=by omega
  simp -implicitDefEqProofs only[go_sem,hx]
  refine sQ ?_
  refine bh [some 0,some 2] ?_ rfl rfl
  refine sA ?_
  rw[addAtom,if_pos hx',←lx,na,lz]
  rfl
theorem tY(a:Atom):C E.P 49 [.aV,av (dS a)] [] (bw (.acc 0) [some (.acc 31 (aJ [a]))]):=by
 refine gS (nt:=14) (rs:=[.tmp 4]) hm Tryz.func49 fun hl he cp=>?_
 refine aC [] (pj [] a) ?_
 have hx:¬0≤bD [] a:=by rw[ib];simp
 simp -implicitDefEqProofs only[go_sem,hx]
 refine sQ ?_
 refine bh [some 1] ?_ rfl rfl
 refine sA ?_
 rfl
theorem yw{t:Mod.Form}{d:Nat}{l:List Atom}(hsh:aL t (d+1)=true)(hl1:l.length+2 ^ (d+1)≤900000)(i:Nat)(hi:i<t.kids.length):(aH l (t.kids.take i)).length+2 ^ d≤900000:=by
 have hk:=cz hsh
 have hp:(2:Nat) ^ (d+1)=2*2 ^ d:=by rw[Nat.pow_succ];omega
 have hp1:1≤(2:Nat) ^ d:=bE
 have h1:=jE (t.kids.take i) d l (iX hk.2.2 i)
 have h2:=jJ (t.kids.take i) d (iX hk.2.2 i)
 have h3:(t.kids.take i).length≤1:=by rw[aO];omega
 have h4:(t.kids.take i).length*(2 ^ d-1)≤1*(2 ^ d-1):=aY _ h3
 omega
theorem vo(t:Mod.Form)(ih:∀k∈t.kids,∀(d:Nat)(l:List Atom),aL k d=true→l.length+2 ^ d≤900000→C E.P 22 [.acc 0,av (cx k)] [some (.acc 31 (aJ l))] (bw (.acc 1) [some .dead,some (.acc 31 (aJ (withAtoms l k)))]))(d:Nat)(l:List Atom)
 (hsh:aL t d=true) (hl1:l.length+2 ^ d≤900000) :
 C E.P 22 [.acc 0,av (cx t)] [some (.acc 31 (aJ l))] (bw (.acc 1) [some .dead,some (.acc 31 (aJ (withAtoms l t)))]):=by
 cases d with
 | zero=>cases t;simp[aL] at hsh
 | succ d=>
 have hk:=cz hsh
 have hroom:=yw hsh hl1
 have hp1:1≤(2:Nat) ^ (d+1):=bE
 refine gS (nt:=29) (rs:=[.tmp 4]) hm Tryz.func22 fun hl he cp=>?_
 rcases aa (t.kind=1) with hkind|hkind
 ·have kk:=eq_true hkind
  simp -implicitDefEqProofs only[go_sem,kk]
  refine oC [] [0,2] (r7 l t.lit.atom (by omega)) ?_
  refine bh [some 0,some 2] ?_ rfl rfl
  refine sA ?_
  rw[dH,if_pos hkind,addAtom]
 ·simp -implicitDefEqProofs only[go_sem,hkind]
  refine aI hm (fun(i:Nat)=> i≤t.kids.length) (fun(i:Nat)=> ⟨eQ 29 .any [(0,.acc 2),(3,.ptr 1 0),(5,iv i)],[some .dead,some (.box (ff (cx t))),some (.acc 31 (aJ (aH l (t.kids.take i))))]⟩) (fun(i:Nat)=> t.kids.length-i) (0) ?_ (ax [some 0,some 1,some 0] ?_ ?_ rfl rfl) ?_
  rotate_left
  ·exact sC
  ·refine sA ?_
   all_goals(simp only[aH])
  rotate_left
  ·omega
  ·rintro i hi
   rcases aa (i<t.kids.length) with h1|h1
   ·refine uA ?_
    have hc:=ih t.kids[i] (ah h1) d (aH l (t.kids.take i)) (bx hk.2.2 _ (ah h1)) (hroom i h1)
    refine oC [] [2,3] hc ?_
    refine sQ ?_
    refine⟨i+1,?_,sL,ax [some 0,some 1,some 3] ?_ ?_ rfl rfl⟩
    rotate_left
    ·exact sC
    ·refine sA ?_
     all_goals(simp only[eV h1])
    exact h1
   ·have e:t.kids.take i=t.kids:=an (by omega)
    simp -implicitDefEqProofs only[go_sem,h1,e]
    refine bh [some 0,some 2] ?_ rfl rfl
    refine sA ?_
    rw[dH,if_neg hkind]
theorem o5:∀(t:Mod.Form)(d:Nat)(l:List Atom),aL t d=true→l.length+2 ^ d≤900000→C E.P 22 [.acc 0,av (cx t)] [some (.acc 31 (aJ l))] (bw (.acc 1) [some .dead,some (.acc 31 (aJ (withAtoms l t)))]):=
 Form.ind fun k x ks ih d l h1 h2=>vo (.mk k x ks) ih d l h1 h2
theorem ra(t:Mod.Form)(hsh:aL t 5=true):C E.P 22 [.aV,av (cx t)] [] (bw (lv (aJ (withAtoms [] t))) []):=by
 have hk:=cz hsh
 have hroom:=yw (l:=[]) hsh (by simp)
 refine gS (nt:=29) (rs:=[.tmp 4]) hm Tryz.func22 fun hl he cp=>?_
 rcases aa (t.kind=1) with hkind|hkind
 ·have kk:=eq_true hkind
  simp -implicitDefEqProofs only[go_sem,kk]
  refine oC [] [1] (tY t.lit.atom) ?_
  refine ak ?_
  refine sA ?_
  rw[dH,if_pos hkind]
  rfl
 ·simp -implicitDefEqProofs only[go_sem,hkind]
  refine aI hm (fun(i:Nat)=> i≤t.kids.length) (fun(i:Nat)=> ⟨eQ 29 .any [(0,.acc 1),(3,.ptr 0 0),(5,iv i)],[some (.box (ff (cx t))),some (.acc 31 (aJ (aH [] (t.kids.take i))))]⟩) (fun(i:Nat)=> t.kids.length-i) (0) ?_ (ax [some 0,none] ?_ ?_ rfl rfl) ?_
  rotate_left
  ·exact sC
  ·refine sA ?_
   all_goals(simp[aH,aJ])
  rotate_left
  ·omega
  ·rintro i hi
   rcases aa (i<t.kids.length) with h1|h1
   ·refine uA ?_
    have hc:=o5 t.kids[i] 4 (aH [] (t.kids.take i)) (bx hk.2.2 _ (ah h1)) (hroom i h1)
    refine oC [] [1,2] hc ?_
    refine sQ ?_
    refine⟨i+1,?_,sL,ax [some 0,some 2] ?_ ?_ rfl rfl⟩
    rotate_left
    ·exact sC
    ·refine sA ?_
     all_goals(simp only[eV h1])
    exact h1
   ·have e:t.kids.take i=t.kids:=an (by omega)
    simp -implicitDefEqProofs only[go_sem,h1,e]
    refine ak ?_
    refine sA ?_
    rw[dH,if_neg hkind]
theorem wQ(t:Mod.Form):C E.P 19 [av (cx t)] [] (bw (bv (dI t)) []):=by
 have e:=Ak t
 unfold AE at e
 refine gS (nt:=16) (rs:=[.tmp 2]) hm Tryz.func19 fun hl he cp=>?_
 have hc:=xZ t 5 (by omega)
 refine aC [] hc ?_
 cases h:aL t 5
 ·refine sA ?_
  refine ak ?_
  refine sA ?_
  all_goals(simp[←e,h];done)
 ·have hc:=zf t 5 (by omega) h
  refine sA ?_
  refine aC [] hc ?_
  rcases aa ((bL t 5:Int)≤10) with h2|h2
  ·have h2':bL t 5≤10:=by omega
   refine uB ?_
   refine aC [] (ra t h) ?_
   refine ak ?_
   refine sA ?_
   rw[←e,h]
   simp[h2']
   omega
  ·have h2':¬bL t 5≤10:=by omega
   refine uB ?_
   refine ak ?_
   refine sA ?_
   all_goals(simp[←e,h,h2'];done)
theorem y8(l:List Atom)(hl1:l.length≤900000):C E.P 21 [lv (aJ l)] [] (bw (lv (cH (plain l))) []):=by
 refine gS (nt:=21) (rs:=[.tmp 2]) hm Tryz.func21 fun hl he cp=>?_
 refine aI hm (fun(i:Nat)=> i≤l.length) (fun(i:Nat)=> ⟨eQ 21 .any [(0,lv (aJ l)),(3,.acc 0),(4,iv i)],[some (.acc 33 (cH (plain (l.take i))))]⟩) (fun(i:Nat)=> l.length-i) (0) ?_ (ax [some 0] ?_ ?_ rfl rfl) ?_
 rotate_left
 ·exact sC
 ·refine sA ?_
  all_goals(simp[plain,cH])
 rotate_left
 ·omega
 ·rintro i hi
  have hv:=tP (l.take i)
  have jT:(l.take i).length=i:=by rw[aO];omega
  rcases aa (i<l.length) with h1|h1
  ·refine uA ?_
   refine sQ ?_
   refine⟨i+1,?_,sL,ax [some 1] ?_ ?_ rfl rfl⟩
   rotate_left
   ·exact sC
   ·refine sA ?_
    all_goals((rw[qR h1,←o0];rfl))
   exact h1
  ·have et:l.take i=l:=an (by omega)
   simp -implicitDefEqProofs only[go_sem,h1,et]
   refine ak ?_
   exact sC
end Go.Proofs.YtgpjhjalfakpoaaGreat
