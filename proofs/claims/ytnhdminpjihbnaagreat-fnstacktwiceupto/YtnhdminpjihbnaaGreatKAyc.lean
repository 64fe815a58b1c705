/-
  The reference: the walks of what is drawn: forms, one in sixteen bent; lists of forms; what is so. A step towards the laws.
-/
import Derived.Test.YtnhdminpjihbnaaGreatKAyb
import Derived.Test.YtnhdminpjihbnaaGreatKAj
set_option linter.unusedVariables false
set_option linter.unusedSimpArgs false
open Int renaming reduceEq→Z1,reduceLT→Z2,reduceLE→Z3,reduceToNat→Z4
open And renaming intro→aq
open Classical renaming em→aa
open List renaming mem_append→aM,mem_singleton→bx
namespace Go.Proofs.YtnhdminpjihbnaaGreat
open Go.Eng Go.Mod
set_option maxRecDepth 100000
set_option maxHeartbeats 800000
theorem Lv:∀(ts:List Mod.aU),ts.length≤pE ts
 | []=>by simp[pE]
 | t::ts=>by have h1:=Lv ts;have h2:1≤nodes t:=(by cases t;simp[nodes]);simp only[pE,List.length_cons];omega
theorem VW(t:Mod.aU):t.ar.length≤nodes t:=by
 cases t with
 | mk k l ks=>have:=Lv ks;simp only[aU.ar,nodes];omega
def Ng(s:eV):Prop:=s.cq.length≤100∧∀x∈s.cq,x.args.length≤1000
theorem vU{s:eV}(h:fe s):Ng s:=⟨by have:=h.1;omega,fun x hx=>by have:=(h.2 x hx).1;omega⟩
theorem La(b:List Int):∀(n:Nat)(l:List Sym)(p:Int),(∀x∈l,x.args.length≤1000)→∀x∈(zX b n l p).1,x.args.length≤1000
 | 0,_,_,h=>h
 | n+1,l,p,h=>La b n _ _ fun x hx=>by rcases aM.1 hx with hx|hx;exact h x hx;rw[bx.1 hx];simp
theorem I1{b:List Int}{s:eV}(h:fe s)(p:Int):Ng (jV b s p).1:=by
 have h0:=vU h;obtain⟨h1,h2⟩:=h;have hx:∀k,(s.cq.getD k ⟨[],[],0⟩).args.length≤2:=by
  intro k;rw[List.getD_eq_getElem?_getD];cases hk:s.cq[k]? with
  | none=>simp
  | some x=>exact(h2 x (List.mem_of_getElem? hk)).1
 have hset:∀(k:Nat)(x:Sym),x.args.length≤1000→Ng ⟨s.cq.set k x⟩:=fun k x hx=>⟨by simp;omega,fun y hy=>by
  rcases List.mem_or_eq_of_mem_set hy with hy|rfl
  ·exact h0.2 y hy
  ·exact hx⟩
 unfold jV;simp only;split;exact h0;split;exact h0;generalize hk:(cP b (p+1) s.cq.length).toNat=k;have hxk:=hx k;split;exact hset _ _ (by simp only;omega);split;exact hset _ _ (by simp only[List.length_append,List.length_singleton];omega);split;exact hset _ _ (by simp only;omega);split;refine⟨by simp;omega,fun y hy=>?_⟩;rcases aM.1 hy with hy|hy;exact h0.2 y hy;rw[bx.1 hy];omega;refine⟨by have:=(Q5 b (8-s.cq.length) s.cq (p+3)).2;simp only;omega,La b _ _ _ h0.2⟩
theorem Nx(b:List Int)(hb:rT b)(s:eV)(hs:fe s)(p:Int)(h1:0≤p)(h2:p≤800000000) :
 C E.P 29 [.bK 0 0,av (gi s)] [some (tn b p)] (gR (av (iA (Bm b s p).1)) [some (tn b (Bm b s p).2)]):=by
 have hO:=Al b hb s hs p h1 oM
 obtain⟨z1,z2,z3⟩:=Lu hb hs h1
 obtain⟨y,e0⟩:∃y,Bm b s p=y:=⟨_,rfl⟩
 have ee:=e0
 unfold Bm at ee
 simp only at ee
 obtain⟨r,hr⟩:∃r,ow b s p=r:=⟨_,rfl⟩
 rw[hr] at ee hO z1 z2 z3
 have hfew:=z3.few
 have qr:r.2+1+1=r.2+2:=oM
 have fj:=z3.len
 rw[e0,←ee]
 refine gS 52 [.cell 4 34] hm Tryz.func29 fun hl he cV=>?_
 refine xN [] [0,3,4] hO ?_
 refine xN [] [0] (ia b r.2 80 hb oM oM) ?_
 rcases aa (cP b r.2 80=0) with c0|c0
 ·have k0:=eq_true c0
  rw[if_pos c0]
  refine dB k0 ?_
  refine oC [] [0] (qN b (r.2+1) [0,3,1,2] hb oM oM (by simp) (by simp)) ?_
  refine bS qr ?_
  refine sI ?_
  refine bM gE ?_ rfl rfl
  refine sA ?_
  repeat' apply aq
  all_goals rfl
 rw[if_neg c0]
 rcases aa (cP b r.2 80=1) with c1|c1
 ·have k1:=eq_true c1
  rw[if_pos c1]
  refine pV c0 k1 ?_
  refine oC [] [0] (qN b (r.2+1) [1001,-9223372036854775808,5] hb oM oM (by simp) (by simp)) ?_
  refine bS qr ?_
  refine sI ?_
  refine bM gE ?_ rfl rfl
  refine sA ?_
  repeat' apply aq
  all_goals rfl
 rw[if_neg c1]
 rcases aa (cP b r.2 80=2) with c2|c2
 ·have k2:=eq_true c2
  rw[if_pos c2]
  refine kY c0 c1 k2 ?_
  refine xN [] [0] (Ob b hb s hs (r.2+1) oM oM) ?_
  refine bM gE ?_ rfl rfl
  refine sA ?_
  repeat' apply aq
  all_goals rfl
 rw[if_neg c2]
 rcases aa (cP b r.2 80=3) with c3|c3
 ·have k3:=eq_true c3
  rw[if_pos c3]
  rcases aa ((0:Int)<(r.1.bt.length:Int)) with h5|h5
  ·have h5n:0<r.1.bt.length:=oM
   rw[if_pos h5n]
   refine kY c0 c1 (aq c2 (aq k3 h5)) ?_
   refine ff [] [0] (qN b (r.2+1) [0,51,-9223372036854775808] hb oM oM (by simp) (by simp)) ?_ ?_<;>simp -implicitDefEqProofs only[go_sem,h5n,qr]
   refine sJ ?_
   refine bM gE ?_ rfl rfl
   refine sA ?_
   repeat' apply aq
   all_goals first|rfl|exact(yg h5n).symm
  ·have h5n:¬0<r.1.bt.length:=oM
   rw[if_neg h5n]
   refine kY c0 c1 (aq c2 (aq k3 h5)) ?_
   refine bM gE ?_ rfl rfl
   refine sA ?_
   repeat' apply aq
   all_goals rfl
 rw[if_neg c3]
 rcases aa (cP b r.2 80=4) with c4|c4
 ·have k4:=eq_true c4
  rw[if_pos c4]
  refine kY c0 c1 (aq c2 (aq c3 k4)) ?_
  refine xN [] [0] (vf b hb s hs 1 1 (r.2+1) oM oM oM) ?_
  refine bM gE ?_ rfl rfl
  refine sA ?_
  repeat' apply aq
  all_goals first|rfl|exact(rZ _ _).symm
 ·rw[if_neg c4]
  refine kY c0 c1 (aq c2 (aq c3 c4)) ?_
  refine bM gE ?_ rfl rfl
  refine sA ?_
  repeat' apply aq
  all_goals rfl
theorem NI(b:List Int)(hb:rT b)(p:Int)(h1:0≤p)(h2:p≤600000000):C E.P 13 [.bK 0 0] [some (tn b p)] (gR (.ko [av (gi (uo b p).1),av (eE (uo b p).2.1)]) [some (tn b (uo b p).2.2)]):=by
 have cD:=NG b hb p h1 oM;obtain⟨z1,z2,z3,z4⟩:=R1 hb h1;obtain⟨y,e0⟩:∃y,uo b p=y:=⟨_,rfl⟩;have ee:=e0;unfold uo at ee;simp only at ee;obtain⟨r,hr⟩:∃r,lO b p=r:=⟨_,rfl⟩;rw[hr] at ee cD z1 z2 z3 z4;obtain⟨s,f,q⟩:=r;simp only at ee cD z1 z2 z3 z4;have hkl:=VW f;have hkall:=u9 f.ar;rw[e0,←ee];refine gS 47 [.cell 2 25,.cell 3 39] hm Tryz.func13 fun hl he cV=>?_;refine xN [] [0] cD ?_;refine xN [] [0] (ia b q 64 hb oM oM) ?_;rcases aa (cP b q 64=0) with c0|c0
 ·have k0:=eq_true c0;have qr:q+1+1=q+2:=oM;rw[if_pos c0];refine dB k0 ?_;refine oC [] [0] (qN b (q+1) [0,7,1,2,3] hb oM oM (by simp) (by simp)) ?_;refine bS qr ?_;refine sI ?_;refine bM gE ?_ rfl rfl;refine sA ?_;repeat' apply aq
  all_goals rfl
 rw[if_neg c0];rcases aa (cP b q 64=1) with c1|c1
 ·have k1:=eq_true c1;rw[if_pos c1];refine pV c0 k1 ?_;refine bM gE ?_ rfl rfl;refine sA ?_;have e:bc f.ar++[eE f]=bc (f.ar++[f]):=(by rw[←lq,lC,nV]);repeat' apply aq
  all_goals first|rfl|exact e.symm
 rw[if_neg c1];rcases aa (cP b q 64=2) with c2|c2
 ·have k2:=eq_true c2;rw[if_pos c2];refine kY c0 c1 k2 ?_;refine xN [] [0] (Nx b hb s z4 (q+1) oM oM) ?_;refine bM gE ?_ rfl rfl;refine sA ?_;repeat' apply aq
  all_goals rfl
 rw[if_neg c2];rcases aa (cP b q 64=3) with c3|c3
 ·have k3:=eq_true c3;rw[if_pos c3];have g1:=Kb b s (q+1);have g2:=I1 (b:=b) z4 (q+1);refine kY c0 c1 (aq c2 k3) ?_;refine xN [] [0] (sP b hb s (vU z4).1 (vU z4).2 (q+1) oM oM) ?_;refine xN [] [0] (sP b hb (jV b s (q+1)).1 g2.1 g2.2 (jV b s (q+1)).2 oM oM) ?_;refine bM gE ?_ rfl rfl;simp -implicitDefEqProofs only[go_sem];repeat' apply aq
  all_goals rfl
 rw[if_neg c3];refine kY c0 c1 (aq c2 c3) ?_;refine bM gE ?_ rfl rfl;simp -implicitDefEqProofs only[go_sem];repeat' apply aq
 all_goals rfl
end Go.Proofs.YtnhdminpjihbnaaGreat
