/-
  The program: the walks of formulas. A step towards the exact laws.
-/
import Derived.Test.YtgpjhjalfakpoaaGreatKAO
set_option linter.unusedVariables false
set_option linter.unusedSimpArgs false
open Bool renaming and_eq_true→ae,false_eq_true→ak,true_and→ay
open Classical renaming em→aa
open List renaming drop_eq_getElem_cons→af,drop_of_length_le→ag,getElem_mem→ai,take_of_length_le→ao,length_take→aO
open Nat renaming mul_le_mul_right→aW,one_le_two_pow→bC,pow_le_pow_right→bH
namespace Go.Proofs.YtgpjhjalfakpoaaGreat
open Go.Eng Go.Mod
open Int renaming reduceEq→Z1,reduceLT→Z2,reduceLE→Z3,reduceToNat→Z4
set_option maxRecDepth 100000
set_option maxHeartbeats 800000
theorem tF(f:Nat)(cap:List PV)(gf:nS 0 cap=true)(p:Atom→Bool)(xs:List Atom)(hf:∀x∈xs,C E.P f (av (dJ x)::cap) [] (bB (bv (p x)) [])) :
 C E.P 85 [lv (aK xs),.fn f cap] [] (bB (iv (idxOf p xs)) []):=by
 refine gS (nt:=19) (rs:=[.tmp 4]) hm Tryz.func85 fun hl he cx=>?_
 refine aG hm (fun(i:Nat)=> i≤xs.length∧idxOf p xs=cI p (xs.drop i) i) (fun(i:Nat)=> ⟨eE 19 .any [(0,lv (aK xs)),(1,.fn f cap),(7,iv xs.length),(8,iv i)],[]⟩) (fun(i:Nat)=> xs.length-i) (0) ?_ (ax [] ?_ ?_ rfl rfl) ?_
 rotate_left
 ·refine sA ?_
  all_goals(simp[aP, *];done)
 ·exact sC
 rotate_left
 ·simp[idxOf]
 ·rintro i ⟨hi,hg⟩
  rcases aa (i<xs.length) with h1|h1
  ·rw[af h1,cI] at hg
   refine uA ?_
   have hc:=hf xs[i] (ai h1)
   refine e7 cap hc ?_ ?_<;>simp -implicitDefEqProofs only[go_sem,gf]
   cases h2:p xs[i]
   ·rw[h2] at hg
    simp only[ak,if_false] at hg
    refine sA ?_
    refine⟨by omega,?_⟩
    refine⟨i+1,?_,sL,ax [] ?_ ?_ rfl rfl⟩
    rotate_left
    ·refine sA ?_
     all_goals(simp[aP, *];done)
    ·exact sC
    exact⟨by omega,hg⟩
   ·rw[h2] at hg
    simp only[if_true] at hg
    refine sA ?_
    refine al ?_
    refine sA ?_
    all_goals(simp[hg];done)
  ·rw[ag (by omega),cI] at hg
   refine uA ?_
   refine al ?_
   refine sA ?_
   all_goals(simp[hg];done)
theorem CA(a b:List Int):C E.P 139 [lv (aL a),lv (aL b)] [] (bB (bv (decide (a=b))) []):=by
 refine gS (nt:=26) (rs:=[.tmp 4]) hm Tryz.func139 fun hl he cx=>?_
 rcases aa (a.length=b.length) with h2|h2
 ·have k2:=eq_true h2
  simp -implicitDefEqProofs only[go_sem,k2]
  refine aG hm (fun(i:Nat)=> i≤a.length∧(a=b↔a.drop i=b.drop i)) (fun(i:Nat)=> ⟨eE 26 .any [(0,lv (aL a)),(1,lv (aL b)),(12,iv a.length),(13,iv i)],[]⟩) (fun(i:Nat)=> a.length-i) (0) ?_ (ax [] ?_ ?_ rfl rfl) ?_
  rotate_left
  ·exact sC
  ·exact sC
  rotate_left
  ·simp
  ·rintro i ⟨hi,hg⟩
   rcases aa (i<a.length) with h3|h3
   ·have h4:i<b.length:=by omega
    rw[af h3,af h4,List.cons.injEq] at hg
    rcases aa (a[i]=b[i]) with h5|h5
    ·have k5:=eq_true h5
     simp -implicitDefEqProofs only[go_sem,h3,h4,k5]
     refine iK ?_
     refine sQ ?_
     refine⟨i+1,?_,sL,ax [] ?_ ?_ rfl rfl⟩
     rotate_left
     ·exact sC
     ·exact sC
     refine⟨by omega,?_⟩
     rw[hg]
     simp[h5]
    ·have e:¬a=b:=fun hh=>h5 (hg.1 hh).1
     simp -implicitDefEqProofs only[go_sem,h3,h4,h5]
     refine iK ?_
     refine al ?_
     refine sA ?_
     all_goals(simp[e];done)
   ·rw[ag (by omega),ag (by omega)] at hg
    refine uC ?_
    refine al ?_
    refine sA ?_
    all_goals(simp[hg];done)
 ·have e:¬a=b:=fun hh=>h2 (by rw[hh])
  refine uB ?_
  refine al ?_
  refine sA ?_
  all_goals(simp[e];done)
theorem lA(a b:Atom):(a=b)=(a.kind=b.kind∧a.A=b.A∧a.B=b.B∧a.aM=b.aM∧a.times=b.times∧a.bound=b.bound∧a.strict=b.strict):=by
 cases a;cases b;simp only[Atom.mk.injEq]
theorem nV(a b:Atom):C E.P 87 [av (dJ a),av (dJ b)] [] (bB (bv (decide (a=b))) []):=by
 refine gS (nt:=52) (rs:=[.tmp 4]) hm Tryz.func87 fun hl he cx=>?_
 rcases aa (a.kind=b.kind) with h1|h1
 rotate_left
 ·refine uA ?_
  refine al ?_
  refine sA ?_
  all_goals(simp[lA,h1];done)
 have k1:=eq_true h1
 simp -implicitDefEqProofs only[go_sem,k1]
 refine aC [] (iC a.A b.A) ?_
 rcases aa (a.A=b.A) with h2|h2
 rotate_left
 ·refine uB ?_
  refine al ?_
  refine sA ?_
  all_goals(simp[lA,h2];done)
 have k2:=eq_true h2
 simp -implicitDefEqProofs only[go_sem,k2]
 refine aC [] (iC a.B b.B) ?_
 rcases aa (a.B=b.B) with h3|h3
 rotate_left
 ·refine uC ?_
  refine al ?_
  refine sA ?_
  all_goals(simp[lA,h3];done)
 have k3:=eq_true h3
 simp -implicitDefEqProofs only[go_sem,k3]
 refine aC [] (nc 137 a.aM b.aM (fun x _ y=>iC x y)) ?_
 rcases aa (a.aM=b.aM) with h4|h4
 rotate_left
 ·refine uD ?_
  refine al ?_
  refine sA ?_
  all_goals(simp[lA,h4];done)
 have k4:=eq_true h4
 simp -implicitDefEqProofs only[go_sem,k4]
 refine aC [] (CA a.times b.times) ?_
 rcases aa (a.times=b.times) with h5|h5
 rotate_left
 ·refine uE ?_
  refine al ?_
  refine sA ?_
  all_goals(simp[lA,h5];done)
 have k5:=eq_true h5
 simp -implicitDefEqProofs only[go_sem,k5]
 rcases aa (a.bound=b.bound) with h6|h6
 rotate_left
 ·simp -implicitDefEqProofs only[go_sem,h6]
  refine al ?_
  refine sA ?_
  all_goals(simp[lA,h6];done)
 have k6:=eq_true h6
 have e:decide (a=b)=(a.strict == b.strict):=by
  rw[Bool.beq_eq_decide_eq]
  exact decide_eq_decide.2 (by rw[lA];simp[h1,h2,h3,h4,h5,h6])
 simp -implicitDefEqProofs only[go_sem,k6]
 refine al ?_
 refine sA ?_
 all_goals(simp[e];done)
theorem qL(t u:Atom):C E.P 86 [av (dJ u),.da [dJ t] 0 0] [] (bB (bv (decide (t=u))) []):=by
 refine gS (nt:=7) (rs:=[.tmp 3]) hm Tryz.func86 fun hl he cx=>?_
 refine aC [] (nV t u) ?_
 refine al ?_
 exact sC
theorem jR(ts:List Atom)(t:Atom):C E.P 44 [lv (aK ts),av (dJ t)] [] (bB (iv (bA ts t)) []):=by
 refine gS (nt:=8) (rs:=[.tmp 4]) hm Tryz.func44 fun hl he cx=>?_
 refine iO [] [0] (tF 86 [.da [dJ t] 0 0] rfl (fun u=>decide (t=u)) ts (fun u _=>qL t u)) rfl ?_ ?_ ?_
 ·exact sV
 all_goals simp -implicitDefEqProofs only[go_sem]
 refine al ?_
 refine sA ?_
 all_goals(simp[bA];done)
theorem u5:C E.P 59 [.aY] [] (bB (lv (aL [])) []):=by
 refine gS (nt:=8) (rs:=[.tmp 2]) hm Tryz.func59 fun hl he cx=>?_
 refine xq 3 _ true rfl rfl (by simp -implicitDefEqProofs only[go_sem]) tf ?_
 refine sA ?_
 refine al ?_
 exact sC
theorem uX(a:Addr)(c:Nat):C E.P 59 [.d (.val (.slice (some a) 0 c))] [] (bB (lv (aL [])) []):=by
 refine gS (nt:=8) (rs:=[.tmp 2]) hm Tryz.func59 fun hl he cx=>?_
 refine xq 3 _ false rfl rfl (p:=.d (.val (.slice (some a) 0 c))) (by simp -implicitDefEqProofs only[go_sem]) (zA _ _ _) ?_
 refine sA ?_
 refine sQ ?_
 refine al ?_
 exact sC
theorem sP(r:List D)(rs:List (List D))(hl1:rs.length≤1000)(h1:∀y∈r::rs,y.length=1):C E.P 59 [.d (.bX (r::rs))] [] (bB (lv (r::rs)) []):=by
 refine gS (nt:=8) (rs:=[.tmp 2]) hm Tryz.func59 fun hl he cx=>?_
 refine xq 3 _ false rfl rfl (p:=.d (.bX (r::rs))) (by simp -implicitDefEqProofs only[go_sem]) zy ?_
 refine sA ?_
 refine And.intro ⟨?_,by omega,by omega⟩ ?_
 ·simpa using h1
 refine al ?_
 exact sC
theorem BB(ns:List Int)(hl1:ns.length≤1000):C E.P 59 [lv (aL ns)] [] (bB (lv (aL ns)) []):=by
 cases ns with
 | nil=>exact E2 u5 uX
 | cons x xs=>
   have h1:=iZ (x::xs)
   rw[b9] at h1⊢
   exact sP _ (aL xs) (by rw[gF];simp at hl1;omega) h1
theorem nO(a:Atom)(hl1:a.times.length≤1000):C E.P 45 [av (dJ a)] [] (bB (av (dJ a)) []):=by
 refine gS (nt:=20) (rs:=[.cell 2 31]) hm Tryz.func45 fun hl he cx=>?_
 refine aC [] (iH a.A) ?_
 refine aC [] (iH a.B) ?_
 refine aC [] (ux a.aM) ?_
 refine aC [] (BB a.times hl1) ?_
 refine iK ?_
 refine al ?_
 exact sC
theorem rK{a:Atom}(h:bT a=true):a.times.length≤4:=by
 rcases oL h with k|k
 ·rw[bT,if_pos k] at h
  simp only[ae,decide_eq_true_eq] at h
  have:=h.2.2.2.1
  omega
 ·obtain⟨_,_,h3,h4,_⟩:=qw h k
  omega
theorem yS(k:Int):C E.P 74 [iv k] [] (bB (iv (cw k)) []):=by
 refine gS (nt:=13) (rs:=[.tmp 2]) hm Tryz.func74 fun hl he cx=>?_
 rcases aa (k=1) with h1|h1
 ·have q:=eq_true h1
  simp -implicitDefEqProofs only[go_sem,q]
  refine al ?_
  refine sA ?_
  all_goals(simp[cw,h1];done)
 rcases aa (k=2) with h2|h2
 ·have q:=eq_true h2
  simp -implicitDefEqProofs only[go_sem,h1,q]
  refine al ?_
  refine sA ?_
  all_goals(simp[cw,h2];done)
 rcases aa (k=3) with h3|h3
 ·have q:=eq_true h3
  simp -implicitDefEqProofs only[go_sem,h1,h2,q]
  refine al ?_
  refine sA ?_
  all_goals(simp[cw,h3];done)
 rcases aa (k=4) with h4|h4
 ·have q:=eq_true h4
  simp -implicitDefEqProofs only[go_sem,h1,h2,h3,q]
  refine al ?_
  refine sA ?_
  all_goals(simp[cw,h4];done)
 rcases aa (k=5) with h5|h5
 ·have q:=eq_true h5
  simp -implicitDefEqProofs only[go_sem,h1,h2,h3,h4,q]
  refine al ?_
  refine sA ?_
  all_goals(simp[cw,h5];done)
 rcases aa (k=6) with h6|h6
 ·have q:=eq_true h6
  simp -implicitDefEqProofs only[go_sem,h1,h2,h3,h4,h5,q]
  refine al ?_
  refine sA ?_
  all_goals(simp[cw,h6];done)
 ·simp -implicitDefEqProofs only[go_sem,h1,h2,h3,h4,h5,h6]
  refine al ?_
  refine sA ?_
  all_goals(simp[cw,h1,h2,h3,h4,h5,h6];done)
theorem xE(l:fh):C E.P 76 [av (C0 l)] [] (bB (bv (ld l)) []):=by
 refine gS (nt:=12) (rs:=[.tmp 2]) hm Tryz.func76 fun hl he cx=>?_
 cases h1:l.no
 ·have hc:=nV l.atom tP
  refine sA ?_
  refine e7 [] hc ?_ ?_<;>simp -implicitDefEqProofs only[go_sem]
  ·exact⟨rfl,rfl,rfl,rfl,rfl,rfl,rfl,rfl,rfl⟩
  refine al ?_
  refine sA ?_
  all_goals(simp[ld,h1];done)
 ·refine sA ?_
  refine al ?_
  refine sA ?_
  all_goals(simp[ld,h1];done)
theorem B3(t:Mod.Form)(bh:Nat):dv t bh=if decide (bh≤5)&&dB t.kind t.lit t.kids then 1+cS t.kids (bh+1) else 11:=by cases t;rfl
theorem o3{ts:List Mod.Form}{i:Nat}(h:i<ts.length)(d:Nat):cS (ts.take (i+1)) d=cS (ts.take i) d+dv ts[i] d:=by
 have key:∀(xs:List Mod.Form),cS (xs++[ts[i]]) d=cS xs d+dv ts[i] d:=by
  intro xs
  induction xs with
  | nil=>simp[cS]
  | cons a xs ih=>simp only[List.cons_append,cS,ih];omega
 rw[eW h,key]
theorem ox{k:Int}:cw k=0↔k=1:=by
 unfold cw
 constructor
 ·intro h
  split at h
  ·assumption
  ·split at h
   ·omega
   ·split at h<;>omega
 ·intro h;rw[if_pos h]
theorem su(t:Mod.Form)(ih:∀k∈t.kids,∀bh:Nat,1≤bh→bh≤6→C E.P 40 [av (df k),iv bh] [] (bB (iv (dv k bh)) []))(bh:Nat)(g1:1≤bh)(g5:bh≤6) :
 C E.P 40 [av (df t),iv bh] [] (bB (iv (dv t bh)) []):=by
 have ht:=B3 t bh
 refine gS (nt:=57) (rs:=[.tmp 4]) hm Tryz.func40 fun hl he cx=>?_
 refine aC [] (yS t.kind) ?_
 rcases aa ((5:Int)<(bh:Int)) with h4|h4
 ·have h4':¬bh≤5:=by omega
  simp only[h4',decide_false,Bool.false_and,ak,if_false] at ht
  refine uD ?_
  refine al ?_
  refine sA ?_
  all_goals(simp[ht];done)
 have h4':bh≤5:=by omega
 simp only[h4',decide_true,ay] at ht
 rcases aa (cw t.kind=t.kids.length) with h1|h1
 rotate_left
 ·have hh:dB t.kind t.lit t.kids=false:=by simp[dB,h1]
  rw[hh] at ht
  simp only[ak,if_false] at ht
  simp -implicitDefEqProofs only[go_sem,h4,h1]
  refine al ?_
  refine sA ?_
  all_goals(simp[ht];done)
 have k1:=eq_true h1
 rcases aa (t.kind=1) with h2|h2
 ·have hz:cw t.kind=0:=ox.2 h2
  have hz2:=eq_true hz
  have hh:dB t.kind t.lit t.kids=bT t.lit.atom:=by unfold dB;rw[if_pos h2];simp[h1]
  rw[hh] at ht
  simp -implicitDefEqProofs only[go_sem,h4,k1,hz2]
  refine aC [] (oS t.lit.atom) ?_
  cases h3:bT t.lit.atom
  ·rw[h3] at ht
   simp only[ak,if_false] at ht
   refine sA ?_
   refine al ?_
   refine sA ?_
   all_goals(simp[ht];done)
  ·rw[h3] at ht
   simp only[if_true] at ht
   have hl2:t.kids.length≤2:=jq (by rw[hh,h3])
   simp -implicitDefEqProofs only[go_sem,hz2]
   refine aG hm (fun(i:Nat)=> i≤t.kids.length) (fun(i:Nat)=> ⟨eE 57 .any [(1,iv bh),(6,iv ((1+cS (t.kids.take i) (bh+1):Nat):Int)),(43,lv (a7 t.kids)),(44,iv t.kids.length),(45,iv i)],[]⟩) (fun(i:Nat)=> t.kids.length-i) (0) ?_ (ax [] ?_ ?_ rfl rfl) ?_
   rotate_left
   ·refine sA ?_
    all_goals(simp[cS])
   ·exact sC
   rotate_left
   ·omega
   ·rintro i hi
    have hb:=kY (t.kids.take i) (bh+1) (by omega) (by omega)
    have hp:(2:Nat) ^ (6-(bh+1))≤2 ^ 5:=bH (by omega) (by omega)
    have hq:(t.kids.take i).length*(23*2 ^ (6-(bh+1))-12)≤2*(23*2 ^ (6-(bh+1))-12):=aW _ (by rw[aO];omega)
    rcases aa (i<t.kids.length) with h9|h9
    ·have hk:=oj t.kids[i] (bh+1) (by omega) (by omega)
     simp -implicitDefEqProofs only[go_sem,h9]
     refine sQ ?_
     have hc:=ih t.kids[i] (ai h9) (bh+1) (by omega) (by omega)
     refine aC [] hc ?_
     refine sQ ?_
     refine⟨i+1,?_,sL,ax [] ?_ ?_ rfl rfl⟩
     rotate_left
     ·refine sA ?_
      all_goals((simp only[o3 h9];simp;omega))
     ·exact sC
     exact h9
    ·have et:t.kids.take i=t.kids:=ao (by omega)
     simp -implicitDefEqProofs only[go_sem,h9,et]
     refine al ?_
     refine sA ?_
     all_goals(simp[ht];done)
 ·have hz:¬cw t.kind=0:=fun e=>h2 (ox.1 e)
  have hh:dB t.kind t.lit t.kids=ld t.lit:=by unfold dB;rw[if_neg h2];simp[h1]
  rw[hh] at ht
  simp -implicitDefEqProofs only[go_sem,h4,k1,hz]
  refine aC [] (xE t.lit) ?_
  cases h3:ld t.lit
  ·rw[h3] at ht
   simp only[ak,if_false] at ht
   refine sA ?_
   refine al ?_
   refine sA ?_
   all_goals(simp[ht];done)
  ·rw[h3] at ht
   simp only[if_true] at ht
   have hl2:t.kids.length≤2:=jq (by rw[hh,h3])
   refine sA ?_
   refine aG hm (fun(i:Nat)=> i≤t.kids.length) (fun(i:Nat)=> ⟨eE 57 .any [(1,iv bh),(6,iv ((1+cS (t.kids.take i) (bh+1):Nat):Int)),(43,lv (a7 t.kids)),(44,iv t.kids.length),(45,iv i)],[]⟩) (fun(i:Nat)=> t.kids.length-i) (0) ?_ (ax [] ?_ ?_ rfl rfl) ?_
   rotate_left
   ·refine sA ?_
    all_goals(simp[cS])
   ·exact sC
   rotate_left
   ·omega
   ·rintro i hi
    have hb:=kY (t.kids.take i) (bh+1) (by omega) (by omega)
    have hp:(2:Nat) ^ (6-(bh+1))≤2 ^ 5:=bH (by omega) (by omega)
    have hq:(t.kids.take i).length*(23*2 ^ (6-(bh+1))-12)≤2*(23*2 ^ (6-(bh+1))-12):=aW _ (by rw[aO];omega)
    rcases aa (i<t.kids.length) with h9|h9
    ·have hk:=oj t.kids[i] (bh+1) (by omega) (by omega)
     simp -implicitDefEqProofs only[go_sem,h9]
     refine sQ ?_
     have hc:=ih t.kids[i] (ai h9) (bh+1) (by omega) (by omega)
     refine aC [] hc ?_
     refine sQ ?_
     refine⟨i+1,?_,sL,ax [] ?_ ?_ rfl rfl⟩
     rotate_left
     ·refine sA ?_
      all_goals((simp only[o3 h9];simp;omega))
     ·exact sC
     exact h9
    ·have et:t.kids.take i=t.kids:=ao (by omega)
     simp -implicitDefEqProofs only[go_sem,h9,et]
     refine al ?_
     refine sA ?_
     all_goals(simp[ht];done)
theorem va:∀(t:Mod.Form)(bh:Nat),1≤bh→bh≤6→C E.P 40 [av (df t),iv bh] [] (bB (iv (dv t bh)) []):=
 Form.ind fun k x ks ih bh h1 h2=>su (.mk k x ks) ih bh h1 h2
theorem jK:∀{ts:List Mod.Form}{d:Nat},bc ts d=true→∀i,bc (ts.take i) d=true
 | [],_,_,i=>by simp[bc]
 | t::ts,d,h,0=>by simp[bc]
 | t::ts,d,h,i+1=>by
   simp only[bc,ae] at h
   simp only[List.take_succ_cons,bc,h.1,ay]
   exact jK h.2 i
theorem ub{t:Mod.Form}{d:Nat}{l:List Atom}(hsh:aJ t (d+1)=true)(hl1:l.length+2 ^ (d+1)≤900000)(i:Nat)(hi:i<t.kids.length):(aS l (t.kids.take i)).length+2 ^ d≤900000:=by
 have hk:=cp hsh
 have hp:(2:Nat) ^ (d+1)=2*2 ^ d:=by rw[Nat.pow_succ];omega
 have hp1:1≤(2:Nat) ^ d:=bC
 have h1:=jz (t.kids.take i) d l (jK hk.2.2 i)
 have h2:=ju (t.kids.take i) d (jK hk.2.2 i)
 have h3:(t.kids.take i).length≤1:=by rw[aO];omega
 have h4:(t.kids.take i).length*(2 ^ d-1)≤1*(2 ^ d-1):=aW _ h3
 omega
theorem Bz{t:Mod.Form}{d:Nat}(hsh:aJ t (d+1)=true)(h1:t.kind=1):t.kids=[]∧bT t.lit.atom=true:=by
 have hk:=(cp hsh).1
 simp only[dB,ae,decide_eq_true_eq] at hk
 have ha:=hk.2
 rw[if_pos h1] at ha
 refine⟨?_,ha⟩
 have hz:cw t.kind=0:=ox.2 h1
 exact List.length_eq_zero_iff.1 (by omega)
theorem rC(t:Mod.Form)(ih:∀k∈t.kids,∀(d:Nat)(l:List Atom),aJ k d=true→l.length+2 ^ d≤900000→C E.P 18 [.acc 0,av (df k)] [some (.acc 31 (aK l))] (bB (.acc 1) [some .dead,some (.acc 31 (aK (withAtoms l k)))]))(d:Nat)(l:List Atom)
 (hsh:aJ t d=true) (hl1:l.length+2 ^ d≤900000) :
 C E.P 18 [.acc 0,av (df t)] [some (.acc 31 (aK l))] (bB (.acc 1) [some .dead,some (.acc 31 (aK (withAtoms l t)))]):=by
 cases d with
 | zero=>cases t;simp[aJ] at hsh
 | succ d=>
 have hk:=cp hsh
 have hroom:=ub hsh hl1
 have hp1:1≤(2:Nat) ^ (d+1):=bC
 refine gS (nt:=37) (rs:=[.tmp 4]) hm Tryz.func18 fun hl he cx=>?_
 rcases aa (t.kind=1) with hkind|hkind
 ·have kk:=eq_true hkind
  obtain⟨hz,hwf⟩:=Bz hsh hkind
  have ON:=rK hwf
  simp -implicitDefEqProofs only[go_sem,kk]
  refine iO [] [0] (jR l t.lit.atom) rfl ?_ ?_ ?_
  ·exact sV
  all_goals simp -implicitDefEqProofs only[go_sem]
  rcases aa (bA l t.lit.atom<0) with hx|hx
  ·simp -implicitDefEqProofs only[go_sem,hx]
   refine aC [] (nO t.lit.atom (by omega)) ?_
   refine sQ ?_
   refine bu [some 0,some 2] ?_ rfl rfl
   refine sA ?_
   rw[dC,if_pos hkind,if_pos hx,←kR,mD,kZ]
   rfl
  ·have he9:aS l t.kids=withAtoms l t:=by rw[dC,if_pos hkind,if_neg hx,hz];rfl
   simp -implicitDefEqProofs only[go_sem,hx]
   refine aG hm (fun(i:Nat)=> i≤t.kids.length) (fun(i:Nat)=> ⟨eE 37 .any [(0,.acc 1),(26,lv (a7 t.kids)),(27,iv t.kids.length),(28,iv i)],[some .dead,some (.acc 31 (aK (aS l (t.kids.take i))))]⟩) (fun(i:Nat)=> t.kids.length-i) (0) ?_ (ax [some 0,some 0] ?_ ?_ rfl rfl) ?_
   rotate_left
   ·exact sC
   ·refine sA ?_
    all_goals(simp only[aS])
   rotate_left
   ·omega
   ·rintro i hi
    rcases aa (i<t.kids.length) with h9|h9
    ·simp -implicitDefEqProofs only[go_sem,h9]
     have hc:=ih t.kids[i] (ai h9) d (aS l (t.kids.take i)) (bt hk.2.2 _ (ai h9)) (hroom i h9)
     refine oC [] [1,3] hc ?_
     refine sQ ?_
     refine⟨i+1,?_,sL,ax [some 0,some 3] ?_ ?_ rfl rfl⟩
     rotate_left
     ·exact sC
     ·refine sA ?_
      all_goals(simp only[fm h9])
     exact h9
    ·have e:t.kids.take i=t.kids:=ao (by omega)
     simp -implicitDefEqProofs only[go_sem,h9,e]
     refine bu [some 0,some 1] ?_ rfl rfl
     refine sA ?_
     rw[he9]
 ·have he9:aS l t.kids=withAtoms l t:=by rw[dC,if_neg hkind]
  simp -implicitDefEqProofs only[go_sem,hkind]
  refine aG hm (fun(i:Nat)=> i≤t.kids.length) (fun(i:Nat)=> ⟨eE 37 .any [(0,.acc 1),(26,lv (a7 t.kids)),(27,iv t.kids.length),(28,iv i)],[some .dead,some (.acc 31 (aK (aS l (t.kids.take i))))]⟩) (fun(i:Nat)=> t.kids.length-i) (0) ?_ (ax [some 0,some 0] ?_ ?_ rfl rfl) ?_
  rotate_left
  ·exact sC
  ·refine sA ?_
   all_goals(simp only[aS])
  rotate_left
  ·omega
  ·rintro i hi
   rcases aa (i<t.kids.length) with h9|h9
   ·simp -implicitDefEqProofs only[go_sem,h9]
    have hc:=ih t.kids[i] (ai h9) d (aS l (t.kids.take i)) (bt hk.2.2 _ (ai h9)) (hroom i h9)
    refine oC [] [1,3] hc ?_
    refine sQ ?_
    refine⟨i+1,?_,sL,ax [some 0,some 3] ?_ ?_ rfl rfl⟩
    rotate_left
    ·exact sC
    ·refine sA ?_
     all_goals(simp only[fm h9])
    exact h9
   ·have e:t.kids.take i=t.kids:=ao (by omega)
    simp -implicitDefEqProofs only[go_sem,h9,e]
    refine bu [some 0,some 1] ?_ rfl rfl
    refine sA ?_
    rw[he9]
theorem nd:∀(t:Mod.Form)(d:Nat)(l:List Atom),aJ t d=true→l.length+2 ^ d≤900000→C E.P 18 [.acc 0,av (df t)] [some (.acc 31 (aK l))] (bB (.acc 1) [some .dead,some (.acc 31 (aK (withAtoms l t)))]):=
 Form.ind fun k x ks ih d l h1 h2=>rC (.mk k x ks) ih d l h1 h2
theorem km(t:Mod.Form)(hsh:aJ t 5=true):C E.P 18 [.aY,av (df t)] [] (bB (lv (aK (withAtoms [] t))) []):=by
 have hk:=cp hsh
 have hroom:=ub (l:=[]) hsh (by simp)
 refine gS (nt:=37) (rs:=[.tmp 4]) hm Tryz.func18 fun hl he cx=>?_
 rcases aa (t.kind=1) with hkind|hkind
 ·have kk:=eq_true hkind
  obtain⟨hz,hwf⟩:=Bz hsh hkind
  have ON:=rK hwf
  have hx:bA [] t.lit.atom<0:=by
   rcases Int.lt_or_le (bA [] t.lit.atom) 0 with h|h
   ·exact h
   ·have:=hG.1 h;simp at this
  simp -implicitDefEqProofs only[go_sem,kk]
  refine aC [] (jR [] t.lit.atom) ?_
  simp -implicitDefEqProofs only[go_sem,hx]
  refine aC [] (nO t.lit.atom (by omega)) ?_
  refine sQ ?_
  refine al ?_
  refine sA ?_
  rw[dC,if_pos hkind,if_pos hx]
  rfl
 ·simp -implicitDefEqProofs only[go_sem,hkind]
  refine aG hm (fun(i:Nat)=> i≤t.kids.length) (fun(i:Nat)=> ⟨eE 37 .any [(0,.acc 0),(26,lv (a7 t.kids)),(27,iv t.kids.length),(28,iv i)],[some (.acc 31 (aK (aS [] (t.kids.take i))))]⟩) (fun(i:Nat)=> t.kids.length-i) (0) ?_ (ax [none] ?_ ?_ rfl rfl) ?_
  rotate_left
  ·exact sC
  ·refine sA ?_
   all_goals(simp[aS,aK])
  rotate_left
  ·omega
  ·rintro i hi
   rcases aa (i<t.kids.length) with h9|h9
   ·simp -implicitDefEqProofs only[go_sem,h9]
    have hc:=nd t.kids[i] 4 (aS [] (t.kids.take i)) (bt hk.2.2 _ (ai h9)) (hroom i h9)
    refine oC [] [0,2] hc ?_
    refine sQ ?_
    refine⟨i+1,?_,sL,ax [some 2] ?_ ?_ rfl rfl⟩
    rotate_left
    ·exact sC
    ·refine sA ?_
     all_goals(simp only[fm h9])
    exact h9
   ·have e:t.kids.take i=t.kids:=ao (by omega)
    simp -implicitDefEqProofs only[go_sem,h9,e]
    refine al ?_
    refine sA ?_
    rw[dC,if_neg hkind]
theorem pO(t:Mod.Form):C E.P 15 [av (df t)] [] (bB (bv (eC t)) []):=by
 have hsz:=lB t 5 (by omega)
 refine gS (nt:=12) (rs:=[.tmp 2]) hm Tryz.func15 fun hl he cx=>?_
 have hc:=va t 1 (by omega) (by omega)
 refine aC [] hc ?_
 rcases aa ((dv t 1:Int)≤10) with h1|h1
 ·have h1':dv t 1≤10:=by omega
  have hsh:aJ t 5=true:=by
   cases h:aJ t 5
   ·have:=hsz.2 h
    have h2:dv t (6-5)=dv t 1:=rfl
    omega
   ·rfl
  refine uA ?_
  refine aC [] (km t hsh) ?_
  refine al ?_
  refine sA ?_
  simp[eC,h1']
  omega
 ·have h1':¬dv t 1≤10:=by omega
  refine uA ?_
  refine al ?_
  refine sA ?_
  all_goals(simp[eC,h1'];done)
theorem qZ(l:List Atom)(hl1:l.length≤900000):C E.P 17 [lv (aK l)] [] (bB (lv (cE (plain l))) []):=by
 refine gS (nt:=19) (rs:=[.tmp 2]) hm Tryz.func17 fun hl he cx=>?_
 refine aG hm (fun(i:Nat)=> i≤l.length) (fun(i:Nat)=> ⟨eE 19 .any [(3,.acc 0),(6,lv (aK l)),(7,iv l.length),(8,iv i)],[some (.acc 33 (cE (plain (l.take i))))]⟩) (fun(i:Nat)=> l.length-i) (0) ?_ (ax [none] ?_ ?_ rfl rfl) ?_
 rotate_left
 ·exact sC
 ·refine sA ?_
  all_goals(simp[plain,cE])
 rotate_left
 ·omega
 ·rintro i hi
  have hv:=tc (l.take i)
  have jH:(l.take i).length=i:=by rw[aO];omega
  rcases aa (i<l.length) with h1|h1
  ·refine uA ?_
   refine sQ ?_
   refine⟨i+1,?_,sL,ax [some 2] ?_ ?_ rfl rfl⟩
   rotate_left
   ·exact sC
   ·refine sA ?_
    all_goals((rw[qe h1,←og];rfl))
   exact h1
  ·have et:l.take i=l:=ao (by omega)
   simp -implicitDefEqProofs only[go_sem,h1,et]
   refine al ?_
   exact sC
theorem yc(s:eD)(t:Mod.Form):C E.P 6 [av (c8 s),av (df t)] [] (bB (bv (kC s t)) []):=by
 refine gT (nt:=14) (rs:=[.tmp 4]) hm Tryz.func6 fun hl he cx=>?_
 refine aD [] (pO t) ?_
 refine sI ?_
 cases h1:eC t
 ·try simp -implicitDefEqProofs only[go_sem,Z1,Z2,Z3,Z4]
  refine sI ?_
  refine al ?_
  refine sB ?_
  all_goals(first|done|(simp[kC,h1];done)|(simp[kC,h1];omega)|skip)
 ·have hs:=eL h1
  try simp -implicitDefEqProofs only[go_sem,Z1,Z2,Z3,Z4]
  refine sI ?_
  refine aD [] (km t hs.1) ?_
  refine sI ?_
  refine aD [] (qZ (withAtoms [] t) (by omega)) ?_
  refine sI ?_
  refine aD [] (qa s (plain (withAtoms [] t))) ?_
  refine sI ?_
  refine al ?_
  refine sB ?_
  all_goals(first|done|(simp[kC,h1];done)|(simp[kC,h1];omega)|skip)
def OK(p:Atom→Bool)(t:Mod.Form)(i k:Nat):Bool:=(sr p (t.kids.take i)).getD k false
end Go.Proofs.YtgpjhjalfakpoaaGreat
