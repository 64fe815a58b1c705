/-
  The law FnFollowOwn, walked: whatever it is given, it answers yes. A step towards the law.
-/
import Derived.Test.YtgpjhjalfakpoaaGreatKBzk
import Derived.Test.YtgpjhjalfakpoaaGreatKBn
set_option linter.unusedVariables false
set_option linter.unusedSimpArgs false
open Classical renaming em→aa
namespace Go.Proofs.YtgpjhjalfakpoaaGreat
open Go.Eng Go.Mod
open Int renaming reduceEq→Z1,reduceLT→Z2,reduceLE→Z3,reduceToNat→Z4
set_option maxRecDepth 100000
set_option maxHeartbeats 3200000
theorem Bl(w:Atom→Bool)(f:Mod.Form):holds w (mc f)= !holds w f:=Aj rfl rfl
theorem pD(s:eJ)(list:List Mod.Form)(f:Mod.Form)(hf:f∈list)(wA:list.length≤1000):∃(p:Mod.zX)(code:Int),code≠0∧C E.P 12 [av (dc s),lv (aN list),av (cx f)] [] (bw (.gN [av (D5 ⟨[]⟩),av (Ee p),iv code]) []):=by
 obtain⟨p,code,mq,cr⟩:=ri s (list++[mc f]) (fun w=>by
  cases h:holds w f with
  | true=>simp[Bl,h]
  | false=>
    cases ha:(list++[mc f]).all (holds w) with
    | false=>rfl
    | true=>
      have:=List.all_eq_true.1 ha f (List.mem_append_left _ hf)
      rw[h] at this;cases this)
 refine⟨p,code,mq,?_⟩
 have ca:=yh list f (by omega)
 refine gS (nt:=17) (rs:=[.cell 6 42,.cell 7 46,.tmp 8]) hm Tryz.func12 fun hl he cp=>?_
 refine aC [] ca ?_
 refine aC [] cr ?_
 refine iK ?_
 refine ak ?_
 simp -implicitDefEqProofs only[go_sem]
 all_goals((repeat' apply And.intro)<;>rfl)
theorem vi(b:List Int)(hb:∀x∈b,0≤x∧x≤255)(c:List Int)(hc:∀x∈c,0≤x∧x≤255):C E.P 4 [lv (Gw b),lv (Gw c)] [] (bw (bv true) []):=by
 refine gS (nt:=69) (rs:=[.tmp 4]) hm Tryz.func4 fun hl he cp=>?_
 rcases aa ((1048576:Int)<(b.length:Int)) with h0|h0
 ·simp -implicitDefEqProofs only[go_sem,h0]
  refine ak ?_
  exact sC
 rcases aa ((1048576:Int)<(c.length:Int)) with h1|h1
 ·simp -implicitDefEqProofs only[go_sem,h0,h1]
  refine ak ?_
  exact sC
 have cD:=oY b hb (by omega)
 have cZ:(j6 (b.take 2000) 0).2.1.length≤1000:=ES (Hv hb)
 generalize j6 (b.take 2000) 0=g at cD cZ
 obtain⟨s,list,x,q⟩:=g
 simp only at cD cZ
 have c1:=oW s list
 have c2:=yt s list
 simp -implicitDefEqProofs only[go_sem,h0,h1]
 refine aC [] cD ?_
 refine aC [] c1 ?_
 refine aC [] c2 ?_
 cases kC:eS s list
 ·rw[kC] at c1 c2
  refine aC [] c2 ?_
  refine iK ?_
  refine aC [] c1 ?_
  refine aC [] c2 ?_
  refine iK ?_
  refine ak ?_
  exact sC
 rw[kC] at c1 c2
 rcases aa ((list.length:Int)=0) with hz|hz
 ·have kz:=eq_true hz
  refine aC [] c2 ?_
  refine iK ?_
  simp -implicitDefEqProofs only[go_sem,kz]
  refine aC [] c1 ?_
  refine aC [] c2 ?_
  refine iK ?_
  refine ak ?_
  exact sC
 obtain⟨k,hk⟩:∃k:Nat,k=c.length % list.length:=⟨_,rfl⟩
 have hkl:k<list.length:=by
  rw[hk]
  exact Nat.mod_lt _ (by omega)
 have hrem:((c.length:Int)).tmod (list.length:Int)=(k:Int):=by
  rw[hk]
  exact(Int.ofNat_tmod c.length list.length).symm
 obtain⟨p,code,mq,cr⟩:=pD s list list[k] (List.getElem_mem hkl) cZ
 refine aC [] c2 ?_
 refine iK ?_
 simp -implicitDefEqProofs only[go_sem,hz,hrem]
 refine sQ ?_
 simp -implicitDefEqProofs only[go_sem,hkl]
 refine aC [] cr ?_
 simp -implicitDefEqProofs only[go_sem,mq]
 refine ak ?_
 exact sC
end Go.Proofs.YtgpjhjalfakpoaaGreat
