/-
  The program: the walks of formulas. A step towards the exact laws.
-/
import Derived.Test.YtgpjhjalfakpoaaGreatKBO
set_option linter.unusedVariables false
set_option linter.unusedSimpArgs false
open Bool renaming and_eq_true→ae,false_eq_true→al,true_and→az
open Classical renaming em→aa
open List renaming drop_eq_getElem_cons→af,drop_of_length_le→ag,getElem_mem→ah,take_of_length_le→an,length_take→aO
open Nat renaming mul_le_mul_right→aY,one_le_two_pow→bE,pow_le_pow_right→bJ
namespace Go.Proofs.YtgpjhjalfakpoaaGreat
open Go.Eng Go.Mod
open Int renaming reduceEq→Z1,reduceLT→Z2,reduceLE→Z3,reduceToNat→Z4
set_option maxRecDepth 100000
set_option maxHeartbeats 800000
theorem ui(f:Nat)(cap:List PV)(fV:oo 0 cap=true)(p:Atom→Bool)(xs:List Atom)(hf:∀x∈xs,C E.P f (av (dS x)::cap) [] (bw (bv (p x)) [])) :
 C E.P 85 [lv (aJ xs),.fn f cap] [] (bw (iv (idxOf p xs)) []):=by
 refine gS (nt:=19) (rs:=[.tmp 4]) hm Tryz.func85 fun hl he cp=>?_
 refine aI hm (fun(i:Nat)=> i≤xs.length∧idxOf p xs=cL p (xs.drop i) i) (fun(i:Nat)=> ⟨eQ 19 .any [(0,lv (aJ xs)),(1,.fn f cap),(7,iv xs.length),(8,iv i)],[]⟩) (fun(i:Nat)=> xs.length-i) (0) ?_ (ax [] ?_ ?_ rfl rfl) ?_
 rotate_left
 ·refine sA ?_
  all_goals(simp[aS, *];done)
 ·exact sC
 rotate_left
 ·simp[idxOf]
 ·rintro i ⟨hi,hg⟩
  rcases aa (i<xs.length) with h1|h1
  ·rw[af h1,cL] at hg
   refine uA ?_
   have hc:=hf xs[i] (ah h1)
   refine fm cap hc ?_ ?_<;>simp -implicitDefEqProofs only[go_sem,fV]
   cases h2:p xs[i]
   ·rw[h2] at hg
    simp only[al,if_false] at hg
    refine sA ?_
    refine⟨by omega,?_⟩
    refine⟨i+1,?_,sL,ax [] ?_ ?_ rfl rfl⟩
    rotate_left
    ·refine sA ?_
     all_goals(simp[aS, *];done)
    ·exact sC
    exact⟨by omega,hg⟩
   ·rw[h2] at hg
    simp only[if_true] at hg
    refine sA ?_
    refine ak ?_
    refine sA ?_
    all_goals(simp[hg];done)
  ·rw[ag (by omega),cL] at hg
   refine uA ?_
   refine ak ?_
   refine sA ?_
   all_goals(simp[hg];done)
theorem Cj(a b:List Int):C E.P 139 [lv (aM a),lv (aM b)] [] (bw (bv (decide (a=b))) []):=by
 refine gS (nt:=26) (rs:=[.tmp 4]) hm Tryz.func139 fun hl he cp=>?_
 rcases aa (a.length=b.length) with h2|h2
 ·have k2:=eq_true h2
  simp -implicitDefEqProofs only[go_sem,k2]
  refine aI hm (fun(i:Nat)=> i≤a.length∧(a=b↔a.drop i=b.drop i)) (fun(i:Nat)=> ⟨eQ 26 .any [(0,lv (aM a)),(1,lv (aM b)),(12,iv a.length),(13,iv i)],[]⟩) (fun(i:Nat)=> a.length-i) (0) ?_ (ax [] ?_ ?_ rfl rfl) ?_
  rotate_left
  ·exact sC
  ·exact sC
  rotate_left
  ·simp
  ·rintro i ⟨hi,hg⟩
   rcases aa (i<a.length) with h3|h3
   ·have h4:i<b.length:=by omega
    rw[af h3,af h4,List.cons.injEq] at hg
    rcases aa (a[i]=b[i]) with h5|h5
    ·have k5:=eq_true h5
     simp -implicitDefEqProofs only[go_sem,h3,h4,k5]
     refine iK ?_
     refine sQ ?_
     refine⟨i+1,?_,sL,ax [] ?_ ?_ rfl rfl⟩
     rotate_left
     ·exact sC
     ·exact sC
     refine⟨by omega,?_⟩
     rw[hg]
     simp[h5]
    ·have e:¬a=b:=fun hh=>h5 (hg.1 hh).1
     simp -implicitDefEqProofs only[go_sem,h3,h4,h5]
     refine iK ?_
     refine ak ?_
     refine sA ?_
     all_goals(simp[e];done)
   ·rw[ag (by omega),ag (by omega)] at hg
    refine uC ?_
    refine ak ?_
    refine sA ?_
    all_goals(simp[hg];done)
 ·have e:¬a=b:=fun hh=>h2 (by rw[hh])
  refine uB ?_
  refine ak ?_
  refine sA ?_
  all_goals(simp[e];done)
theorem ma(a b:Atom):(a=b)=(a.kind=b.kind∧a.A=b.A∧a.B=b.B∧a.aP=b.aP∧a.times=b.times∧a.bound=b.bound∧a.strict=b.strict):=by
 cases a;cases b;simp only[Atom.mk.injEq]
theorem oy(a b:Atom):C E.P 87 [av (dS a),av (dS b)] [] (bw (bv (decide (a=b))) []):=by
 refine gS (nt:=52) (rs:=[.tmp 4]) hm Tryz.func87 fun hl he cp=>?_
 rcases aa (a.kind=b.kind) with h1|h1
 rotate_left
 ·refine uA ?_
  refine ak ?_
  refine sA ?_
  all_goals(simp[ma,h1];done)
 have k1:=eq_true h1
 simp -implicitDefEqProofs only[go_sem,k1]
 refine aC [] (iT a.A b.A) ?_
 rcases aa (a.A=b.A) with h2|h2
 rotate_left
 ·refine uB ?_
  refine ak ?_
  refine sA ?_
  all_goals(simp[ma,h2];done)
 have k2:=eq_true h2
 simp -implicitDefEqProofs only[go_sem,k2]
 refine aC [] (iT a.B b.B) ?_
 rcases aa (a.B=b.B) with h3|h3
 rotate_left
 ·refine uC ?_
  refine ak ?_
  refine sA ?_
  all_goals(simp[ma,h3];done)
 have k3:=eq_true h3
 simp -implicitDefEqProofs only[go_sem,k3]
 refine aC [] (nx 137 a.aP b.aP (fun x _ y=>iT x y)) ?_
 rcases aa (a.aP=b.aP) with h4|h4
 rotate_left
 ·refine uD ?_
  refine ak ?_
  refine sA ?_
  all_goals(simp[ma,h4];done)
 have k4:=eq_true h4
 simp -implicitDefEqProofs only[go_sem,k4]
 refine aC [] (Cj a.times b.times) ?_
 rcases aa (a.times=b.times) with h5|h5
 rotate_left
 ·refine uE ?_
  refine ak ?_
  refine sA ?_
  all_goals(simp[ma,h5];done)
 have k5:=eq_true h5
 simp -implicitDefEqProofs only[go_sem,k5]
 rcases aa (a.bound=b.bound) with h6|h6
 rotate_left
 ·simp -implicitDefEqProofs only[go_sem,h6]
  refine ak ?_
  refine sA ?_
  all_goals(simp[ma,h6];done)
 have k6:=eq_true h6
 have e:decide (a=b)=(a.strict == b.strict):=by
  rw[Bool.beq_eq_decide_eq]
  exact decide_eq_decide.2 (by rw[ma];simp[h1,h2,h3,h4,h5,h6])
 simp -implicitDefEqProofs only[go_sem,k6]
 refine ak ?_
 refine sA ?_
 all_goals(simp[e];done)
theorem qX(t u:Atom):C E.P 86 [av (dS u),.di [dS t] 0 0] [] (bw (bv (decide (t=u))) []):=by
 refine gS (nt:=7) (rs:=[.tmp 3]) hm Tryz.func86 fun hl he cp=>?_
 refine aC [] (oy t u) ?_
 refine ak ?_
 exact sC
theorem kd(ts:List Atom)(t:Atom):C E.P 44 [lv (aJ ts),av (dS t)] [] (bw (iv (bD ts t)) []):=by
 refine gS (nt:=8) (rs:=[.tmp 4]) hm Tryz.func44 fun hl he cp=>?_
 refine ja [] [0] (ui 86 [.di [dS t] 0 0] rfl (fun u=>decide (t=u)) ts (fun u _=>qX t u)) rfl ?_ ?_ ?_
 ·exact sV
 all_goals simp -implicitDefEqProofs only[go_sem]
 refine ak ?_
 refine sA ?_
 all_goals(simp[bD];done)
theorem vg:C E.P 59 [.aV] [] (bw (lv (aM [])) []):=by
 refine gS (nt:=8) (rs:=[.tmp 2]) hm Tryz.func59 fun hl he cp=>?_
 refine qw 3 _ true rfl rfl (by simp -implicitDefEqProofs only[go_sem]) pV ?_
 refine sA ?_
 refine ak ?_
 exact sC
theorem vm(a:Addr)(c:Nat):C E.P 59 [.d (.val (.slice (some a) 0 c))] [] (bw (lv (aM [])) []):=by
 refine gS (nt:=8) (rs:=[.tmp 2]) hm Tryz.func59 fun hl he cp=>?_
 refine qw 3 _ false rfl rfl (p:=.d (.val (.slice (some a) 0 c))) (by simp -implicitDefEqProofs only[go_sem]) (ta _ _ _) ?_
 refine sA ?_
 refine sQ ?_
 refine ak ?_
 exact sC
theorem th(r:List D)(rs:List (List D))(hl1:rs.length≤1000)(h1:∀y∈r::rs,y.length=1):C E.P 59 [.d (.b7 (r::rs))] [] (bw (lv (r::rs)) []):=by
 refine gS (nt:=8) (rs:=[.tmp 2]) hm Tryz.func59 fun hl he cp=>?_
 refine qw 3 _ false rfl rfl (p:=.d (.b7 (r::rs))) (by simp -implicitDefEqProofs only[go_sem]) td ?_
 refine sA ?_
 refine And.intro ⟨?_,by omega,by omega⟩ ?_
 ·simpa using h1
 refine ak ?_
 exact sC
theorem BS(ns:List Int)(hl1:ns.length≤1000):C E.P 59 [lv (aM ns)] [] (bw (lv (aM ns)) []):=by
 cases ns with
 | nil=>exact FM vg vm
 | cons x xs=>
   have h1:=jo (x::xs)
   rw[cb] at h1⊢
   exact th _ (aM xs) (by rw[gU];simp at hl1;omega) h1
theorem oj(a:Atom)(hl1:a.times.length≤1000):C E.P 45 [av (dS a)] [] (bw (av (dS a)) []):=by
 refine gS (nt:=20) (rs:=[.cell 2 31]) hm Tryz.func45 fun hl he cp=>?_
 refine aC [] (iV a.A) ?_
 refine aC [] (iV a.B) ?_
 refine aC [] (vB a.aP) ?_
 refine aC [] (BS a.times hl1) ?_
 refine iK ?_
 refine ak ?_
 exact sC
theorem sN{a:Atom}(h:bW a=true):a.times.length≤4:=by
 rcases oI h with k|k
 ·rw[bW,if_pos k] at h
  simp only[ae,decide_eq_true_eq] at h
  have:=h.2.2.2.1
  omega
 ·obtain⟨_,_,h3,h4,_⟩:=qM h k
  omega
theorem zd(k:Int):C E.P 74 [iv k] [] (bw (iv (cC k)) []):=by
 refine gS (nt:=13) (rs:=[.tmp 2]) hm Tryz.func74 fun hl he cp=>?_
 rcases aa (k=1) with h1|h1
 ·have q:=eq_true h1
  simp -implicitDefEqProofs only[go_sem,q]
  refine ak ?_
  refine sA ?_
  all_goals(simp[cC,h1];done)
 rcases aa (k=2) with h2|h2
 ·have q:=eq_true h2
  simp -implicitDefEqProofs only[go_sem,h1,q]
  refine ak ?_
  refine sA ?_
  all_goals(simp[cC,h2];done)
 rcases aa (k=3) with h3|h3
 ·have q:=eq_true h3
  simp -implicitDefEqProofs only[go_sem,h1,h2,q]
  refine ak ?_
  refine sA ?_
  all_goals(simp[cC,h3];done)
 rcases aa (k=4) with h4|h4
 ·have q:=eq_true h4
  simp -implicitDefEqProofs only[go_sem,h1,h2,h3,q]
  refine ak ?_
  refine sA ?_
  all_goals(simp[cC,h4];done)
 rcases aa (k=5) with h5|h5
 ·have q:=eq_true h5
  simp -implicitDefEqProofs only[go_sem,h1,h2,h3,h4,q]
  refine ak ?_
  refine sA ?_
  all_goals(simp[cC,h5];done)
 rcases aa (k=6) with h6|h6
 ·have q:=eq_true h6
  simp -implicitDefEqProofs only[go_sem,h1,h2,h3,h4,h5,q]
  refine ak ?_
  refine sA ?_
  all_goals(simp[cC,h6];done)
 ·simp -implicitDefEqProofs only[go_sem,h1,h2,h3,h4,h5,h6]
  refine ak ?_
  refine sA ?_
  all_goals(simp[cC,h1,h2,h3,h4,h5,h6];done)
theorem xM(l:fB):C E.P 76 [av (EZ l)] [] (bw (bv (ly l)) []):=by
 refine gS (nt:=12) (rs:=[.tmp 2]) hm Tryz.func76 fun hl he cp=>?_
 cases h1:l.no
 ·have hc:=oy l.atom uy
  refine sA ?_
  refine fm [] hc ?_ ?_<;>simp -implicitDefEqProofs only[go_sem]
  ·exact⟨rfl,rfl,rfl,rfl,rfl,rfl,rfl,rfl,rfl⟩
  refine ak ?_
  refine sA ?_
  all_goals(simp[ly,h1];done)
 ·refine sA ?_
  refine ak ?_
  refine sA ?_
  all_goals(simp[ly,h1];done)
theorem Dc(t:Mod.Form)(bj:Nat):dD t bj=if decide (bj≤5)&&dM t.kind t.lit t.kids then 1+cV t.kids (bj+1) else 11:=by cases t;rfl
theorem o6{ts:List Mod.Form}{i:Nat}(h:i<ts.length)(d:Nat):cV (ts.take (i+1)) d=cV (ts.take i) d+dD ts[i] d:=by
 have key:∀(xs:List Mod.Form),cV (xs++[ts[i]]) d=cV xs d+dD ts[i] d:=by
  intro xs
  induction xs with
  | nil=>simp[cV]
  | cons a xs ih=>simp only[List.cons_append,cV,ih];omega
 rw[fl h,key]
theorem oO{k:Int}:cC k=0↔k=1:=by
 unfold cC
 constructor
 ·intro h
  split at h
  ·assumption
  ·split at h
   ·omega
   ·split at h<;>omega
 ·intro h;rw[if_pos h]
theorem tw(t:Mod.Form)(ih:∀k∈t.kids,∀bj:Nat,1≤bj→bj≤6→C E.P 40 [av (cx k),iv bj] [] (bw (iv (dD k bj)) []))(bj:Nat)(g1:1≤bj)(g5:bj≤6) :
 C E.P 40 [av (cx t),iv bj] [] (bw (iv (dD t bj)) []):=by
 have ht:=Dc t bj
 refine gS (nt:=57) (rs:=[.tmp 4]) hm Tryz.func40 fun hl he cp=>?_
 refine aC [] (zd t.kind) ?_
 rcases aa ((5:Int)<(bj:Int)) with h4|h4
 ·have h4':¬bj≤5:=by omega
  simp only[h4',decide_false,Bool.false_and,al,if_false] at ht
  refine uD ?_
  refine ak ?_
  refine sA ?_
  all_goals(simp[ht];done)
 have h4':bj≤5:=by omega
 simp only[h4',decide_true,az] at ht
 rcases aa (cC t.kind=t.kids.length) with h1|h1
 rotate_left
 ·have hh:dM t.kind t.lit t.kids=false:=by simp[dM,h1]
  rw[hh] at ht
  simp only[al,if_false] at ht
  simp -implicitDefEqProofs only[go_sem,h4,h1]
  refine ak ?_
  refine sA ?_
  all_goals(simp[ht];done)
 have k1:=eq_true h1
 rcases aa (t.kind=1) with h2|h2
 ·have hz:cC t.kind=0:=oO.2 h2
  have hz2:=eq_true hz
  have hh:dM t.kind t.lit t.kids=bW t.lit.atom:=by unfold dM;rw[if_pos h2];simp[h1]
  rw[hh] at ht
  simp -implicitDefEqProofs only[go_sem,h4,k1,hz2]
  refine aC [] (o9 t.lit.atom) ?_
  cases h3:bW t.lit.atom
  ·rw[h3] at ht
   simp only[al,if_false] at ht
   refine sA ?_
   refine ak ?_
   refine sA ?_
   all_goals(simp[ht];done)
  ·rw[h3] at ht
   simp only[if_true] at ht
   have hl2:t.kids.length≤2:=jy (by rw[hh,h3])
   simp -implicitDefEqProofs only[go_sem,hz2]
   refine aI hm (fun(i:Nat)=> i≤t.kids.length) (fun(i:Nat)=> ⟨eQ 57 .any [(1,iv bj),(6,iv ((1+cV (t.kids.take i) (bj+1):Nat):Int)),(43,lv (aN t.kids)),(44,iv t.kids.length),(45,iv i)],[]⟩) (fun(i:Nat)=> t.kids.length-i) (0) ?_ (ax [] ?_ ?_ rfl rfl) ?_
   rotate_left
   ·refine sA ?_
    all_goals(simp[cV])
   ·exact sC
   rotate_left
   ·omega
   ·rintro i hi
    have hb:=lq (t.kids.take i) (bj+1) (by omega) (by omega)
    have hp:(2:Nat) ^ (6-(bj+1))≤2 ^ 5:=bJ (by omega) (by omega)
    have hq:(t.kids.take i).length*(23*2 ^ (6-(bj+1))-12)≤2*(23*2 ^ (6-(bj+1))-12):=aY _ (by rw[aO];omega)
    rcases aa (i<t.kids.length) with h9|h9
    ·have hk:=oU t.kids[i] (bj+1) (by omega) (by omega)
     simp -implicitDefEqProofs only[go_sem,h9]
     refine sQ ?_
     have hc:=ih t.kids[i] (ah h9) (bj+1) (by omega) (by omega)
     refine aC [] hc ?_
     refine sQ ?_
     refine⟨i+1,?_,sL,ax [] ?_ ?_ rfl rfl⟩
     rotate_left
     ·refine sA ?_
      all_goals((simp only[o6 h9];simp;omega))
     ·exact sC
     exact h9
    ·have et:t.kids.take i=t.kids:=an (by omega)
     simp -implicitDefEqProofs only[go_sem,h9,et]
     refine ak ?_
     refine sA ?_
     all_goals(simp[ht];done)
 ·have hz:¬cC t.kind=0:=fun e=>h2 (oO.1 e)
  have hh:dM t.kind t.lit t.kids=ly t.lit:=by unfold dM;rw[if_neg h2];simp[h1]
  rw[hh] at ht
  simp -implicitDefEqProofs only[go_sem,h4,k1,hz]
  refine aC [] (xM t.lit) ?_
  cases h3:ly t.lit
  ·rw[h3] at ht
   simp only[al,if_false] at ht
   refine sA ?_
   refine ak ?_
   refine sA ?_
   all_goals(simp[ht];done)
  ·rw[h3] at ht
   simp only[if_true] at ht
   have hl2:t.kids.length≤2:=jy (by rw[hh,h3])
   refine sA ?_
   refine aI hm (fun(i:Nat)=> i≤t.kids.length) (fun(i:Nat)=> ⟨eQ 57 .any [(1,iv bj),(6,iv ((1+cV (t.kids.take i) (bj+1):Nat):Int)),(43,lv (aN t.kids)),(44,iv t.kids.length),(45,iv i)],[]⟩) (fun(i:Nat)=> t.kids.length-i) (0) ?_ (ax [] ?_ ?_ rfl rfl) ?_
   rotate_left
   ·refine sA ?_
    all_goals(simp[cV])
   ·exact sC
   rotate_left
   ·omega
   ·rintro i hi
    have hb:=lq (t.kids.take i) (bj+1) (by omega) (by omega)
    have hp:(2:Nat) ^ (6-(bj+1))≤2 ^ 5:=bJ (by omega) (by omega)
    have hq:(t.kids.take i).length*(23*2 ^ (6-(bj+1))-12)≤2*(23*2 ^ (6-(bj+1))-12):=aY _ (by rw[aO];omega)
    rcases aa (i<t.kids.length) with h9|h9
    ·have hk:=oU t.kids[i] (bj+1) (by omega) (by omega)
     simp -implicitDefEqProofs only[go_sem,h9]
     refine sQ ?_
     have hc:=ih t.kids[i] (ah h9) (bj+1) (by omega) (by omega)
     refine aC [] hc ?_
     refine sQ ?_
     refine⟨i+1,?_,sL,ax [] ?_ ?_ rfl rfl⟩
     rotate_left
     ·refine sA ?_
      all_goals((simp only[o6 h9];simp;omega))
     ·exact sC
     exact h9
    ·have et:t.kids.take i=t.kids:=an (by omega)
     simp -implicitDefEqProofs only[go_sem,h9,et]
     refine ak ?_
     refine sA ?_
     all_goals(simp[ht];done)
theorem vn:∀(t:Mod.Form)(bj:Nat),1≤bj→bj≤6→C E.P 40 [av (cx t),iv bj] [] (bw (iv (dD t bj)) []):=
 Form.ind fun k x ks ih bj h1 h2=>tw (.mk k x ks) ih bj h1 h2
theorem ka:∀{ts:List Mod.Form}{d:Nat},bc ts d=true→∀i,bc (ts.take i) d=true
 | [],_,_,i=>by simp[bc]
 | t::ts,d,h,0=>by simp[bc]
 | t::ts,d,h,i+1=>by
   simp only[bc,ae] at h
   simp only[List.take_succ_cons,bc,h.1,az]
   exact ka h.2 i
theorem uM{t:Mod.Form}{d:Nat}{l:List Atom}(hsh:aL t (d+1)=true)(hl1:l.length+2 ^ (d+1)≤900000)(i:Nat)(hi:i<t.kids.length):(aH l (t.kids.take i)).length+2 ^ d≤900000:=by
 have hk:=cz hsh
 have hp:(2:Nat) ^ (d+1)=2*2 ^ d:=by rw[Nat.pow_succ];omega
 have hp1:1≤(2:Nat) ^ d:=bE
 have h1:=jE (t.kids.take i) d l (ka hk.2.2 i)
 have h2:=jJ (t.kids.take i) d (ka hk.2.2 i)
 have h3:(t.kids.take i).length≤1:=by rw[aO];omega
 have h4:(t.kids.take i).length*(2 ^ d-1)≤1*(2 ^ d-1):=aY _ h3
 omega
theorem BW{t:Mod.Form}{d:Nat}(hsh:aL t (d+1)=true)(h1:t.kind=1):t.kids=[]∧bW t.lit.atom=true:=by
 have hk:=(cz hsh).1
 simp only[dM,ae,decide_eq_true_eq] at hk
 have ha:=hk.2
 rw[if_pos h1] at ha
 refine⟨?_,ha⟩
 have hz:cC t.kind=0:=oO.2 h1
 exact List.length_eq_zero_iff.1 (by omega)
theorem sF(t:Mod.Form)(ih:∀k∈t.kids,∀(d:Nat)(l:List Atom),aL k d=true→l.length+2 ^ d≤900000→C E.P 18 [.acc 0,av (cx k)] [some (.acc 31 (aJ l))] (bw (.acc 1) [some .dead,some (.acc 31 (aJ (withAtoms l k)))]))(d:Nat)(l:List Atom)
 (hsh:aL t d=true) (hl1:l.length+2 ^ d≤900000) :
 C E.P 18 [.acc 0,av (cx t)] [some (.acc 31 (aJ l))] (bw (.acc 1) [some .dead,some (.acc 31 (aJ (withAtoms l t)))]):=by
 cases d with
 | zero=>cases t;simp[aL] at hsh
 | succ d=>
 have hk:=cz hsh
 have hroom:=uM hsh hl1
 have hp1:1≤(2:Nat) ^ (d+1):=bE
 refine gS (nt:=37) (rs:=[.tmp 4]) hm Tryz.func18 fun hl he cp=>?_
 rcases aa (t.kind=1) with hkind|hkind
 ·have kk:=eq_true hkind
  obtain⟨hz,hwf⟩:=BW hsh hkind
  have PD:=sN hwf
  simp -implicitDefEqProofs only[go_sem,kk]
  refine ja [] [0] (kd l t.lit.atom) rfl ?_ ?_ ?_
  ·exact sV
  all_goals simp -implicitDefEqProofs only[go_sem]
  rcases aa (bD l t.lit.atom<0) with hx|hx
  ·simp -implicitDefEqProofs only[go_sem,hx]
   refine aC [] (oj t.lit.atom (by omega)) ?_
   refine sQ ?_
   refine bh [some 0,some 2] ?_ rfl rfl
   refine sA ?_
   rw[dH,if_pos hkind,if_pos hx,←lx,na,lz]
   rfl
  ·have he9:aH l t.kids=withAtoms l t:=by rw[dH,if_pos hkind,if_neg hx,hz];rfl
   simp -implicitDefEqProofs only[go_sem,hx]
   refine aI hm (fun(i:Nat)=> i≤t.kids.length) (fun(i:Nat)=> ⟨eQ 37 .any [(0,.acc 1),(26,lv (aN t.kids)),(27,iv t.kids.length),(28,iv i)],[some .dead,some (.acc 31 (aJ (aH l (t.kids.take i))))]⟩) (fun(i:Nat)=> t.kids.length-i) (0) ?_ (ax [some 0,some 0] ?_ ?_ rfl rfl) ?_
   rotate_left
   ·exact sC
   ·refine sA ?_
    all_goals(simp only[aH])
   rotate_left
   ·omega
   ·rintro i hi
    rcases aa (i<t.kids.length) with h9|h9
    ·simp -implicitDefEqProofs only[go_sem,h9]
     have hc:=ih t.kids[i] (ah h9) d (aH l (t.kids.take i)) (bx hk.2.2 _ (ah h9)) (hroom i h9)
     refine oC [] [1,3] hc ?_
     refine sQ ?_
     refine⟨i+1,?_,sL,ax [some 0,some 3] ?_ ?_ rfl rfl⟩
     rotate_left
     ·exact sC
     ·refine sA ?_
      all_goals(simp only[eV h9])
     exact h9
    ·have e:t.kids.take i=t.kids:=an (by omega)
     simp -implicitDefEqProofs only[go_sem,h9,e]
     refine bh [some 0,some 1] ?_ rfl rfl
     refine sA ?_
     rw[he9]
 ·have he9:aH l t.kids=withAtoms l t:=by rw[dH,if_neg hkind]
  simp -implicitDefEqProofs only[go_sem,hkind]
  refine aI hm (fun(i:Nat)=> i≤t.kids.length) (fun(i:Nat)=> ⟨eQ 37 .any [(0,.acc 1),(26,lv (aN t.kids)),(27,iv t.kids.length),(28,iv i)],[some .dead,some (.acc 31 (aJ (aH l (t.kids.take i))))]⟩) (fun(i:Nat)=> t.kids.length-i) (0) ?_ (ax [some 0,some 0] ?_ ?_ rfl rfl) ?_
  rotate_left
  ·exact sC
  ·refine sA ?_
   all_goals(simp only[aH])
  rotate_left
  ·omega
  ·rintro i hi
   rcases aa (i<t.kids.length) with h9|h9
   ·simp -implicitDefEqProofs only[go_sem,h9]
    have hc:=ih t.kids[i] (ah h9) d (aH l (t.kids.take i)) (bx hk.2.2 _ (ah h9)) (hroom i h9)
    refine oC [] [1,3] hc ?_
    refine sQ ?_
    refine⟨i+1,?_,sL,ax [some 0,some 3] ?_ ?_ rfl rfl⟩
    rotate_left
    ·exact sC
    ·refine sA ?_
     all_goals(simp only[eV h9])
    exact h9
   ·have e:t.kids.take i=t.kids:=an (by omega)
    simp -implicitDefEqProofs only[go_sem,h9,e]
    refine bh [some 0,some 1] ?_ rfl rfl
    refine sA ?_
    rw[he9]
theorem nq:∀(t:Mod.Form)(d:Nat)(l:List Atom),aL t d=true→l.length+2 ^ d≤900000→C E.P 18 [.acc 0,av (cx t)] [some (.acc 31 (aJ l))] (bw (.acc 1) [some .dead,some (.acc 31 (aJ (withAtoms l t)))]):=
 Form.ind fun k x ks ih d l h1 h2=>sF (.mk k x ks) ih d l h1 h2
theorem oG(t:Mod.Form)(hsh:aL t 5=true):C E.P 18 [.aV,av (cx t)] [] (bw (lv (aJ (withAtoms [] t))) []):=by
 have hk:=cz hsh
 have hroom:=uM (l:=[]) hsh (by simp)
 refine gS (nt:=37) (rs:=[.tmp 4]) hm Tryz.func18 fun hl he cp=>?_
 rcases aa (t.kind=1) with hkind|hkind
 ·have kk:=eq_true hkind
  obtain⟨hz,hwf⟩:=BW hsh hkind
  have PD:=sN hwf
  have hx:bD [] t.lit.atom<0:=by
   rcases Int.lt_or_le (bD [] t.lit.atom) 0 with h|h
   ·exact h
   ·have:=ib.1 h;simp at this
  simp -implicitDefEqProofs only[go_sem,kk]
  refine aC [] (kd [] t.lit.atom) ?_
  simp -implicitDefEqProofs only[go_sem,hx]
  refine aC [] (oj t.lit.atom (by omega)) ?_
  refine sQ ?_
  refine ak ?_
  refine sA ?_
  rw[dH,if_pos hkind,if_pos hx]
  rfl
 ·simp -implicitDefEqProofs only[go_sem,hkind]
  refine aI hm (fun(i:Nat)=> i≤t.kids.length) (fun(i:Nat)=> ⟨eQ 37 .any [(0,.acc 0),(26,lv (aN t.kids)),(27,iv t.kids.length),(28,iv i)],[some (.acc 31 (aJ (aH [] (t.kids.take i))))]⟩) (fun(i:Nat)=> t.kids.length-i) (0) ?_ (ax [none] ?_ ?_ rfl rfl) ?_
  rotate_left
  ·exact sC
  ·refine sA ?_
   all_goals(simp[aH,aJ])
  rotate_left
  ·omega
  ·rintro i hi
   rcases aa (i<t.kids.length) with h9|h9
   ·simp -implicitDefEqProofs only[go_sem,h9]
    have hc:=nq t.kids[i] 4 (aH [] (t.kids.take i)) (bx hk.2.2 _ (ah h9)) (hroom i h9)
    refine oC [] [0,2] hc ?_
    refine sQ ?_
    refine⟨i+1,?_,sL,ax [some 2] ?_ ?_ rfl rfl⟩
    rotate_left
    ·exact sC
    ·refine sA ?_
     all_goals(simp only[eV h9])
    exact h9
   ·have e:t.kids.take i=t.kids:=an (by omega)
    simp -implicitDefEqProofs only[go_sem,h9,e]
    refine ak ?_
    refine sA ?_
    rw[dH,if_neg hkind]
theorem y7(t:Mod.Form):C E.P 15 [av (cx t)] [] (bw (bv (dI t)) []):=by
 have hsz:=lZ t 5 (by omega)
 refine gS (nt:=12) (rs:=[.tmp 2]) hm Tryz.func15 fun hl he cp=>?_
 have hc:=vn t 1 (by omega) (by omega)
 refine aC [] hc ?_
 rcases aa ((dD t 1:Int)≤10) with h1|h1
 ·have h1':dD t 1≤10:=by omega
  have hsh:aL t 5=true:=by
   cases h:aL t 5
   ·have:=hsz.2 h
    have h2:dD t (6-5)=dD t 1:=rfl
    omega
   ·rfl
  refine uA ?_
  refine aC [] (oG t hsh) ?_
  refine ak ?_
  refine sA ?_
  simp[dI,h1']
  omega
 ·have h1':¬dD t 1≤10:=by omega
  refine uA ?_
  refine ak ?_
  refine sA ?_
  all_goals(simp[dI,h1'];done)
theorem AW(l:List Atom)(hl1:l.length≤900000):C E.P 17 [lv (aJ l)] [] (bw (lv (cH (plain l))) []):=by
 refine gS (nt:=19) (rs:=[.tmp 2]) hm Tryz.func17 fun hl he cp=>?_
 refine aI hm (fun(i:Nat)=> i≤l.length) (fun(i:Nat)=> ⟨eQ 19 .any [(3,.acc 0),(6,lv (aJ l)),(7,iv l.length),(8,iv i)],[some (.acc 33 (cH (plain (l.take i))))]⟩) (fun(i:Nat)=> l.length-i) (0) ?_ (ax [none] ?_ ?_ rfl rfl) ?_
 rotate_left
 ·exact sC
 ·refine sA ?_
  all_goals(simp[plain,cH])
 rotate_left
 ·omega
 ·rintro i hi
  have hv:=tP (l.take i)
  have jT:(l.take i).length=i:=by rw[aO];omega
  rcases aa (i<l.length) with h1|h1
  ·refine uA ?_
   refine sQ ?_
   refine⟨i+1,?_,sL,ax [some 2] ?_ ?_ rfl rfl⟩
   rotate_left
   ·exact sC
   ·refine sA ?_
    all_goals((rw[qR h1,←o0];rfl))
   exact h1
  ·have et:l.take i=l:=an (by omega)
   simp -implicitDefEqProofs only[go_sem,h1,et]
   refine ak ?_
   exact sC
end Go.Proofs.YtgpjhjalfakpoaaGreat
