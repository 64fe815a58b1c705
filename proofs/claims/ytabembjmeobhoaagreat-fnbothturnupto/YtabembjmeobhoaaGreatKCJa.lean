/-
  Plain laws on what an explanation derives. A step towards the exact laws.
-/
import Derived.Test.YtabembjmeobhoaaGreatKCH
set_option linter.unusedVariables false
set_option linter.unusedSimpArgs false
open Bool renaming false_eq_true→aw,true_and→aE,false_and→aK
open Classical renaming em→aa
open Int renaming reduceEq→hY
open List renaming getElem_mem→ak,drop_of_length_le→al,append_nil→bm,map_append→cK
open Option renaming map_some→cz,map_none→dG
namespace Go.Proofs.YtabembjmeobhoaaGreat
open Go.Eng Go.Mod
set_option maxRecDepth 100000
theorem rB(f:Int→Int→Term→List fF→fF×Bool)(w:ju)(d:Nat):bR f w (d+1)=match cO f w.kids d with
 | none=>(u5,false)
 | some kids=>f w.iX w.n w.t kids:=by
 cases w;simp only[bR,ju.kids,ju.iX,ju.n,ju.t];rfl
theorem nf{f:Int→Int→Term→List fF→fF×Bool}{ws:List ju}{i:Nat}(h:i<ws.length)(d:Nat):cO f (ws.drop i) d=if(bR f ws[i] d).2 then(cO f (ws.drop (i+1)) d).map (fun es=>(bR f ws[i] d).1::es) else none:=by
 rw[List.drop_eq_getElem_cons h,cO]
theorem JX{α:Type}(f:α→Term){xs:List α}{i:Nat}(h:i<xs.length):aN ((xs.take i).map f)++[cT (f xs[i])]=aN ((xs.take (i+1)).map f):=by
 have e:xs.take (i+1)=xs.take i++[xs[i]]:=by rw[List.take_add_one,List.getElem?_eq_getElem h];rfl
 rw[e,cK,lf,lf,cK]
 rfl
open Int renaming reduceEq→Z1,reduceLT→Z2,reduceLE→Z3,reduceToNat→Z4
set_option maxHeartbeats 800000
theorem wU(eqs:List fF)(w:ju)(ih:∀k∈w.kids,∀d:Nat,d≤400→C E.P 153 [av (gR k),lv (cS eqs),iv (401-d)] [] (bD (.gV [av (Cy (bR (bH eqs) k d).1),bv (bR (bH eqs) k d).2]) []))(d:Nat)(hd:d+1≤400)(r1:w.iX=1) :
 C E.P 153 [av (gR w),lv (cS eqs),iv (401-((d+1:Nat):Int))] [] (bD (.gV [av (Cy (bR (bH eqs) w (d+1)).1),bv (bR (bH eqs) w (d+1)).2]) []):=by
 have ht:=rB (bH eqs) w d
 refine gS (nt:=210) (rs:=[.cell 6 134,.tmp 7]) hm Tryz.func153 fun hl he cq=>?_
 have e:¬ (400:Int)<401-((d:Int)+1):=by omega
 have e2:(401:Int)-((d:Int)+1)+1=401-(d:Int):=by omega
 simp -implicitDefEqProofs only[go_sem,e]
 refine cQ hm (fun(i:Nat) (got:List fF)=> i≤w.kids.length∧got.length=i∧cO (bH eqs) w.kids d=(cO (bH eqs) (w.kids.drop i) d).map (fun es=>got++es)) (fun(i:Nat) (got:List fF)=> ⟨dH 210 .any [(1,lv (cS eqs)),(2,iv (401-((d:Int)+1))),(3,.ptr 0 0),(6,.ptr 1 0),(8,.acc 2),(20,lv (eL w.kids)),(21,iv w.kids.length),(22,iv i)],[some (.box (cF (gR w))),some (.box (cF (Cy u5))),some (.acc 134 (cS got))]⟩) (fun(i:Nat) (got:List fF)=> w.kids.length-i) (0) ([]) ?_ (ar [some 0,some 1,none] ?_ ?_ rfl rfl) ?_
 rotate_left
 ·exact sC
 ·exact sC
 rotate_left
 ·simp
 ·rintro i got ⟨hi,hgl,hg⟩
  rcases aa (i<w.kids.length) with h1|h1
  ·rw[nf h1] at hg
   refine uA ?_
   refine⟨by omega,?_⟩
   have hc:=ih w.kids[i] (ak h1) d (by omega)
   refine bp [] hc ?_ ?_<;>simp -implicitDefEqProofs only[go_sem,e2]
   cases h2:(bR (bH eqs) w.kids[i] d).2
   ·rw[h2] at hg
    simp only[aw,if_false,dG] at hg
    rw[hg] at ht
    simp only at ht
    refine sA ?_
    refine an ?_
    refine sA ?_
    all_goals(simp[ht,Ec,DP,mU,mI,fZ];done)
   ·rw[h2] at hg
    simp only[if_true] at hg
    refine sA ?_
    refine⟨by omega,by omega,?_⟩
    refine⟨i+1,got++[(bR (bH eqs) w.kids[i] d).1],?_,sL,ar [some 0,some 1,some 5] ?_ ?_ rfl rfl⟩
    rotate_left
    ·exact sC
    ·refine sA ?_
     all_goals((rw[←lK,jA,jL];rfl))
    refine⟨h1,by simp[hgl],?_⟩
    rw[hg]
    cases cO (bH eqs) (w.kids.drop (i+1)) d<;>simp
  ·rw[al (by omega),cO] at hg
   simp only[cz,bm] at hg
   rw[hg] at ht
   simp only at ht
   have gl:(got.length:Int)≤LB:=by omega
   rcases aa (w.n=0) with hn|hn
   ·rcases aa ((got.length:Int)=0) with hz|hz
    ·have hz':got.length=0:=by omega
     simp -implicitDefEqProofs only[go_sem,Z1,h1,r1,hn,hz,hY]
     refine aC [] (iM w.t) ?_
     refine iK ?_
     skip
     refine an ?_
     refine sA ?_
     all_goals(simp[ht,bH,r1,hn,hz'];done)
    ·have hz':¬got.length=0:=by omega
     simp -implicitDefEqProofs only[go_sem,Z1,h1,r1,hn,hz,hY]
     refine iK ?_
     skip
     refine an ?_
     refine sA ?_
     all_goals(simp[ht,bH,r1,hn,hz'];done)
   ·simp -implicitDefEqProofs only[go_sem,Z1,h1,r1,hn,hY]
    refine an ?_
    refine sA ?_
    all_goals(simp[ht,bH,r1,hn];done)
theorem xR(eqs:List fF)(w:ju)(ih:∀k∈w.kids,∀d:Nat,d≤400→C E.P 153 [av (gR k),lv (cS eqs),iv (401-d)] [] (bD (.gV [av (Cy (bR (bH eqs) k d).1),bv (bR (bH eqs) k d).2]) []))(d:Nat)(hd:d+1≤400)(r2:w.iX=2) :
 C E.P 153 [av (gR w),lv (cS eqs),iv (401-((d+1:Nat):Int))] [] (bD (.gV [av (Cy (bR (bH eqs) w (d+1)).1),bv (bR (bH eqs) w (d+1)).2]) []):=by
 have ht:=rB (bH eqs) w d
 refine gS (nt:=210) (rs:=[.cell 6 134,.tmp 7]) hm Tryz.func153 fun hl he cq=>?_
 have e:¬ (400:Int)<401-((d:Int)+1):=by omega
 have e2:(401:Int)-((d:Int)+1)+1=401-(d:Int):=by omega
 simp -implicitDefEqProofs only[go_sem,e]
 refine cQ hm (fun(i:Nat) (got:List fF)=> i≤w.kids.length∧got.length=i∧cO (bH eqs) w.kids d=(cO (bH eqs) (w.kids.drop i) d).map (fun es=>got++es)) (fun(i:Nat) (got:List fF)=> ⟨dH 210 .any [(1,lv (cS eqs)),(2,iv (401-((d:Int)+1))),(3,.ptr 0 0),(6,.ptr 1 0),(8,.acc 2),(20,lv (eL w.kids)),(21,iv w.kids.length),(22,iv i)],[some (.box (cF (gR w))),some (.box (cF (Cy u5))),some (.acc 134 (cS got))]⟩) (fun(i:Nat) (got:List fF)=> w.kids.length-i) (0) ([]) ?_ (ar [some 0,some 1,none] ?_ ?_ rfl rfl) ?_
 rotate_left
 ·exact sC
 ·exact sC
 rotate_left
 ·simp
 ·rintro i got ⟨hi,hgl,hg⟩
  rcases aa (i<w.kids.length) with h1|h1
  ·rw[nf h1] at hg
   refine uA ?_
   refine⟨by omega,?_⟩
   have hc:=ih w.kids[i] (ak h1) d (by omega)
   refine bp [] hc ?_ ?_<;>simp -implicitDefEqProofs only[go_sem,e2]
   cases h2:(bR (bH eqs) w.kids[i] d).2
   ·rw[h2] at hg
    simp only[aw,if_false,dG] at hg
    rw[hg] at ht
    simp only at ht
    refine sA ?_
    refine an ?_
    refine sA ?_
    all_goals(simp[ht,Ec,DP,mU,mI,fZ];done)
   ·rw[h2] at hg
    simp only[if_true] at hg
    refine sA ?_
    refine⟨by omega,by omega,?_⟩
    refine⟨i+1,got++[(bR (bH eqs) w.kids[i] d).1],?_,sL,ar [some 0,some 1,some 5] ?_ ?_ rfl rfl⟩
    rotate_left
    ·exact sC
    ·refine sA ?_
     all_goals((rw[←lK,jA,jL];rfl))
    refine⟨h1,by simp[hgl],?_⟩
    rw[hg]
    cases cO (bH eqs) (w.kids.drop (i+1)) d<;>simp
  ·rw[al (by omega),cO] at hg
   simp only[cz,bm] at hg
   rw[hg] at ht
   simp only at ht
   have gl:(got.length:Int)≤LB:=by omega
   simp -implicitDefEqProofs only[go_sem,Z1,h1,r2,hY]
   refine aC [] (fN w.t) ?_
   cases hq:isNone w.t
   ·refine sA ?_
    refine an ?_
    refine sA ?_
    all_goals(simp[ht,bH,r2,hq];done)
   ·simp -implicitDefEqProofs only[go_sem,Z1]
    rcases aa ((0:Int)<(got.length:Int)) with hz|hz
    ·have hz':0<got.length:=by omega
     simp -implicitDefEqProofs only[go_sem,hz]
     refine an ?_
     refine sA ?_
     all_goals(simp[ht,bH,r2,hq,hz'];done)
    ·have hz':¬0<got.length:=by omega
     simp -implicitDefEqProofs only[go_sem,hz]
     refine⟨by omega,?_⟩
     refine aC [] (fv w.n 0 ((eqs.length:Int)-1)) ?_
     cases hw:within w.n 0 ((eqs.length:Int)-1)
     ·refine sA ?_
      refine an ?_
      refine sA ?_
      all_goals(simp[ht,bH,r2,hq,hz',hw];done)
     ·have hw':=dk.1 hw
      have h0:0≤w.n:=hw'.1
      have lQ:w.n.toNat<eqs.length:=by omega
      have hg2:eqs.getD w.n.toNat u5=eqs[w.n.toNat]:=m9 lQ _
      simp -implicitDefEqProofs only[go_sem,h0,lQ]
      have e3:bR (bH eqs) w (d+1)=(eqs[w.n.toNat],true):=by rw[ht,←hg2];simp[bH,r2,hq,hz',hw]
      refine an ?_
      refine sA ?_
      all_goals(simp[e3];done)
theorem vG(eqs:List fF)(w:ju)(ih:∀k∈w.kids,∀d:Nat,d≤400→C E.P 153 [av (gR k),lv (cS eqs),iv (401-d)] [] (bD (.gV [av (Cy (bR (bH eqs) k d).1),bv (bR (bH eqs) k d).2]) []))(d:Nat)(hd:d+1≤400)(r3:w.iX=3) :
 C E.P 153 [av (gR w),lv (cS eqs),iv (401-((d+1:Nat):Int))] [] (bD (.gV [av (Cy (bR (bH eqs) w (d+1)).1),bv (bR (bH eqs) w (d+1)).2]) []):=by
 have ht:=rB (bH eqs) w d
 refine gS (nt:=210) (rs:=[.cell 6 134,.tmp 7]) hm Tryz.func153 fun hl he cq=>?_
 have e:¬ (400:Int)<401-((d:Int)+1):=by omega
 have e2:(401:Int)-((d:Int)+1)+1=401-(d:Int):=by omega
 simp -implicitDefEqProofs only[go_sem,e]
 refine cQ hm (fun(i:Nat) (got:List fF)=> i≤w.kids.length∧got.length=i∧cO (bH eqs) w.kids d=(cO (bH eqs) (w.kids.drop i) d).map (fun es=>got++es)) (fun(i:Nat) (got:List fF)=> ⟨dH 210 .any [(1,lv (cS eqs)),(2,iv (401-((d:Int)+1))),(3,.ptr 0 0),(6,.ptr 1 0),(8,.acc 2),(20,lv (eL w.kids)),(21,iv w.kids.length),(22,iv i)],[some (.box (cF (gR w))),some (.box (cF (Cy u5))),some (.acc 134 (cS got))]⟩) (fun(i:Nat) (got:List fF)=> w.kids.length-i) (0) ([]) ?_ (ar [some 0,some 1,none] ?_ ?_ rfl rfl) ?_
 rotate_left
 ·exact sC
 ·exact sC
 rotate_left
 ·simp
 ·rintro i got ⟨hi,hgl,hg⟩
  rcases aa (i<w.kids.length) with h1|h1
  ·rw[nf h1] at hg
   refine uA ?_
   refine⟨by omega,?_⟩
   have hc:=ih w.kids[i] (ak h1) d (by omega)
   refine bp [] hc ?_ ?_<;>simp -implicitDefEqProofs only[go_sem,e2]
   cases h2:(bR (bH eqs) w.kids[i] d).2
   ·rw[h2] at hg
    simp only[aw,if_false,dG] at hg
    rw[hg] at ht
    simp only at ht
    refine sA ?_
    refine an ?_
    refine sA ?_
    all_goals(simp[ht,Ec,DP,mU,mI,fZ];done)
   ·rw[h2] at hg
    simp only[if_true] at hg
    refine sA ?_
    refine⟨by omega,by omega,?_⟩
    refine⟨i+1,got++[(bR (bH eqs) w.kids[i] d).1],?_,sL,ar [some 0,some 1,some 5] ?_ ?_ rfl rfl⟩
    rotate_left
    ·exact sC
    ·refine sA ?_
     all_goals((rw[←lK,jA,jL];rfl))
    refine⟨h1,by simp[hgl],?_⟩
    rw[hg]
    cases cO (bH eqs) (w.kids.drop (i+1)) d<;>simp
  ·rw[al (by omega),cO] at hg
   simp only[cz,bm] at hg
   rw[hg] at ht
   simp only at ht
   have gl:(got.length:Int)≤LB:=by omega
   have r1:¬w.iX=1:=by omega
   have r2:¬w.iX=2:=by omega
   have r5:¬w.iX=5:=by omega
   rcases aa (w.n=0) with hn|hn
   ·simp -implicitDefEqProofs only[go_sem,Z1,h1,r3,hn,hY]
    refine aC [] (fN w.t) ?_
    cases hq:isNone w.t
    ·refine sA ?_
     refine an ?_
     refine sA ?_
     all_goals(simp[ht,bH,r3,hq];done)
    ·simp -implicitDefEqProofs only[go_sem,Z1]
     rcases aa ((got.length:Int)=1) with hz|hz
     ·have hz':got.length=1:=by omega
      have h0:0<got.length:=by omega
      have hg0:got.getD 0 u5=got[0]:=m9 h0 _
      simp -implicitDefEqProofs only[go_sem,hz,h0]
      refine iK ?_
      have e3:bR (bH eqs) w (d+1)=(⟨got[0].B,got[0].A⟩,true):=by rw[ht,←hg0];simp[bH,r3,hn,hq,hz']
      refine an ?_
      refine sA ?_
      all_goals(simp[e3];done)
     ·have hz':¬got.length=1:=by omega
      simp -implicitDefEqProofs only[go_sem,hz]
      refine an ?_
      refine sA ?_
      all_goals(simp[ht,bH,r3,hn,hq,hz'];done)
   ·simp -implicitDefEqProofs only[go_sem,Z1,h1,r3,hn,hY]
    refine an ?_
    refine sA ?_
    all_goals(simp[ht,bH,r3,hn];done)
theorem wN(eqs:List fF)(w:ju)(ih:∀k∈w.kids,∀d:Nat,d≤400→C E.P 153 [av (gR k),lv (cS eqs),iv (401-d)] [] (bD (.gV [av (Cy (bR (bH eqs) k d).1),bv (bR (bH eqs) k d).2]) []))(d:Nat)(hd:d+1≤400)(r1:¬w.iX=1)(r2:¬w.iX=2)(r3:¬w.iX=3)(r4:¬w.iX=4)(r5:¬w.iX=5) :
 C E.P 153 [av (gR w),lv (cS eqs),iv (401-((d+1:Nat):Int))] [] (bD (.gV [av (Cy (bR (bH eqs) w (d+1)).1),bv (bR (bH eqs) w (d+1)).2]) []):=by
 have ht:=rB (bH eqs) w d
 refine gS (nt:=210) (rs:=[.cell 6 134,.tmp 7]) hm Tryz.func153 fun hl he cq=>?_
 have e:¬ (400:Int)<401-((d:Int)+1):=by omega
 have e2:(401:Int)-((d:Int)+1)+1=401-(d:Int):=by omega
 simp -implicitDefEqProofs only[go_sem,e]
 refine cQ hm (fun(i:Nat) (got:List fF)=> i≤w.kids.length∧got.length=i∧cO (bH eqs) w.kids d=(cO (bH eqs) (w.kids.drop i) d).map (fun es=>got++es)) (fun(i:Nat) (got:List fF)=> ⟨dH 210 .any [(1,lv (cS eqs)),(2,iv (401-((d:Int)+1))),(3,.ptr 0 0),(6,.ptr 1 0),(8,.acc 2),(20,lv (eL w.kids)),(21,iv w.kids.length),(22,iv i)],[some (.box (cF (gR w))),some (.box (cF (Cy u5))),some (.acc 134 (cS got))]⟩) (fun(i:Nat) (got:List fF)=> w.kids.length-i) (0) ([]) ?_ (ar [some 0,some 1,none] ?_ ?_ rfl rfl) ?_
 rotate_left
 ·exact sC
 ·exact sC
 rotate_left
 ·simp
 ·rintro i got ⟨hi,hgl,hg⟩
  rcases aa (i<w.kids.length) with h1|h1
  ·rw[nf h1] at hg
   refine uA ?_
   refine⟨by omega,?_⟩
   have hc:=ih w.kids[i] (ak h1) d (by omega)
   refine bp [] hc ?_ ?_<;>simp -implicitDefEqProofs only[go_sem,e2]
   cases h2:(bR (bH eqs) w.kids[i] d).2
   ·rw[h2] at hg
    simp only[aw,if_false,dG] at hg
    rw[hg] at ht
    simp only at ht
    refine sA ?_
    refine an ?_
    refine sA ?_
    all_goals(simp[ht,Ec,DP,mU,mI,fZ];done)
   ·rw[h2] at hg
    simp only[if_true] at hg
    refine sA ?_
    refine⟨by omega,by omega,?_⟩
    refine⟨i+1,got++[(bR (bH eqs) w.kids[i] d).1],?_,sL,ar [some 0,some 1,some 5] ?_ ?_ rfl rfl⟩
    rotate_left
    ·exact sC
    ·refine sA ?_
     all_goals((rw[←lK,jA,jL];rfl))
    refine⟨h1,by simp[hgl],?_⟩
    rw[hg]
    cases cO (bH eqs) (w.kids.drop (i+1)) d<;>simp
  ·rw[al (by omega),cO] at hg
   simp only[cz,bm] at hg
   rw[hg] at ht
   simp only at ht
   have gl:(got.length:Int)≤LB:=by omega
   rcases aa (w.n=0) with hn|hn
   ·simp -implicitDefEqProofs only[go_sem,h1,r1,r5,r2,hn]
    refine aC [] (fN w.t) ?_
    cases hq:isNone w.t
    ·refine sA ?_
     refine an ?_
     refine sA ?_
     all_goals(simp[ht,bH,r1,r2,r5,hq];done)
    ·simp -implicitDefEqProofs only[go_sem,r1,r2,r3,r4,r5]
     refine an ?_
     refine sA ?_
     all_goals(simp[ht,bH,r1,r2,r3,r4,r5,hn,hq];done)
   ·simp -implicitDefEqProofs only[go_sem,h1,r2,hn]
    refine an ?_
    refine sA ?_
    all_goals(simp[ht,bH,r2,hn];done)
theorem wK(eqs:List fF)(w:ju)(ih:∀k∈w.kids,∀d:Nat,d≤400→C E.P 153 [av (gR k),lv (cS eqs),iv (401-d)] [] (bD (.gV [av (Cy (bR (bH eqs) k d).1),bv (bR (bH eqs) k d).2]) []))(d:Nat)(hd:d+1≤400)(r5:w.iX=5) :
 C E.P 153 [av (gR w),lv (cS eqs),iv (401-((d+1:Nat):Int))] [] (bD (.gV [av (Cy (bR (bH eqs) w (d+1)).1),bv (bR (bH eqs) w (d+1)).2]) []):=by
 have ht:=rB (bH eqs) w d
 refine gS (nt:=210) (rs:=[.cell 6 134,.tmp 7]) hm Tryz.func153 fun hl he cq=>?_
 have e:¬ (400:Int)<401-((d:Int)+1):=by omega
 have e2:(401:Int)-((d:Int)+1)+1=401-(d:Int):=by omega
 simp -implicitDefEqProofs only[go_sem,e]
 refine cQ hm (fun(i:Nat) (got:List fF)=> i≤w.kids.length∧got.length=i∧cO (bH eqs) w.kids d=(cO (bH eqs) (w.kids.drop i) d).map (fun es=>got++es)) (fun(i:Nat) (got:List fF)=> ⟨dH 210 .any [(1,lv (cS eqs)),(2,iv (401-((d:Int)+1))),(3,.ptr 0 0),(6,.ptr 1 0),(8,.acc 2),(20,lv (eL w.kids)),(21,iv w.kids.length),(22,iv i)],[some (.box (cF (gR w))),some (.box (cF (Cy u5))),some (.acc 134 (cS got))]⟩) (fun(i:Nat) (got:List fF)=> w.kids.length-i) (0) ([]) ?_ (ar [some 0,some 1,none] ?_ ?_ rfl rfl) ?_
 rotate_left
 ·exact sC
 ·exact sC
 rotate_left
 ·simp
 ·rintro i got ⟨hi,hgl,hg⟩
  rcases aa (i<w.kids.length) with h1|h1
  ·rw[nf h1] at hg
   refine uA ?_
   refine⟨by omega,?_⟩
   have hc:=ih w.kids[i] (ak h1) d (by omega)
   refine bp [] hc ?_ ?_<;>simp -implicitDefEqProofs only[go_sem,e2]
   cases h2:(bR (bH eqs) w.kids[i] d).2
   ·rw[h2] at hg
    simp only[aw,if_false,dG] at hg
    rw[hg] at ht
    simp only at ht
    refine sA ?_
    refine an ?_
    refine sA ?_
    all_goals(simp[ht,Ec,DP,mU,mI,fZ];done)
   ·rw[h2] at hg
    simp only[if_true] at hg
    refine sA ?_
    refine⟨by omega,by omega,?_⟩
    refine⟨i+1,got++[(bR (bH eqs) w.kids[i] d).1],?_,sL,ar [some 0,some 1,some 5] ?_ ?_ rfl rfl⟩
    rotate_left
    ·exact sC
    ·refine sA ?_
     all_goals((rw[←lK,jA,jL];rfl))
    refine⟨h1,by simp[hgl],?_⟩
    rw[hg]
    cases cO (bH eqs) (w.kids.drop (i+1)) d<;>simp
  ·rw[al (by omega),cO] at hg
   simp only[cz,bm] at hg
   rw[hg] at ht
   simp only at ht
   have gl:(got.length:Int)≤LB:=by omega
   rcases aa (w.n=0) with hn|hn
   ·rcases aa ((got.length:Int)=0) with hz|hz
    ·have hz':got.length=0:=by omega
     simp -implicitDefEqProofs only[go_sem,Z1,h1,r5,hn,hz,hY]
     refine an ?_
     refine sA ?_
     all_goals(simp[ht,bH,r5,hn,hz'];done)
    ·have hz':¬got.length=0:=by omega
     simp -implicitDefEqProofs only[go_sem,Z1,h1,r5,hn,hz,hY]
     refine aC [] (pY w.t.name) ?_
     cases hq:fI w.t.name
     ·refine sA ?_
      refine an ?_
      refine sA ?_
      all_goals(simp[ht,bH,r5,hn,hz',hq];done)
     ·refine sA ?_
      rcases aa ((0:Int)<(w.t.kids.length:Int)) with hk|hk
      ·have hk':0<w.t.kids.length:=by omega
       simp -implicitDefEqProofs only[go_sem,hk]
       refine an ?_
       refine sA ?_
       all_goals(simp[ht,bH,r5,hn,hz',hq,hk'];done)
      ·have hk':¬0<w.t.kids.length:=by omega
       simp -implicitDefEqProofs only[go_sem,hk]
       refine aM hm (fun(j:Nat)=> j≤got.length) (fun(j:Nat)=> ⟨dH 210 .any [(6,.ptr 0 0),(13,.ptr 1 0),(175,.acc 2),(176,iv got.length),(177,iv j)],[some (.box (cF (Cy u5))),some (.box [.d (.str w.t.name),.acc 3,.d (.str w.t.name),.acc 4]),some (.acc 134 (cS got)),some (.acc 34 (aN ((got.take j).map (·.A)))),some (.acc 34 (aN ((got.take j).map (·.B))))]⟩) (fun(j:Nat)=> got.length-j) (0) ?_ (ar [some 1,some 3,some 2,none,none] ?_ ?_ rfl rfl) ?_
       rotate_left
       ·exact sC
       ·exact sC
       rotate_left
       ·omega
       ·rintro j hj
        rcases aa (j<got.length) with h3|h3
        ·refine uC ?_
         refine sQ ?_
         refine⟨j+1,?_,sL,ar [some 0,some 1,some 2,some 6,some 7] ?_ ?_ rfl rfl⟩
         rotate_left
         ·exact sC
         ·refine sA ?_
          all_goals(exact⟨JX _ h3,JX _ h3⟩)
         exact h3
        ·have e3:bR (bH eqs) w (d+1)=(⟨.mk w.t.name (got.map (·.A)),.mk w.t.name (got.map (·.B))⟩,isTerm (.mk w.t.name (got.map (·.A)))&&isTerm (.mk w.t.name (got.map (·.B)))):=by rw[ht];simp[bH,r5,hn,hz',hq,hk']
         have et:got.take j=got:=List.take_of_length_le (by omega)
         simp -implicitDefEqProofs only[go_sem,h3,et]
         refine dQ [] [3] (iM (.mk w.t.name (got.map (·.A)))) rfl ?_ ?_ ?_
         ·exact sV
         all_goals simp -implicitDefEqProofs only[go_sem]
         cases hA:isTerm (.mk w.t.name (got.map (·.A)))
         ·refine sA ?_
          refine iK ?_
          refine an ?_
          refine sA ?_
          all_goals(simp[e3,hA];done)
         ·refine sA ?_
          refine dQ [] [4] (iM (.mk w.t.name (got.map (·.B)))) rfl ?_ ?_ ?_
          ·exact sV
          all_goals simp -implicitDefEqProofs only[go_sem]
          refine iK ?_
          refine an ?_
          refine sA ?_
          all_goals(simp[e3,hA];done)
   ·simp -implicitDefEqProofs only[go_sem,Z1,h1,r5,hn,hY]
    refine an ?_
    refine sA ?_
    all_goals(simp[ht,bH,r5,hn];done)
theorem wJ(eqs:List fF)(w:ju)(ih:∀k∈w.kids,∀d:Nat,d≤400→C E.P 153 [av (gR k),lv (cS eqs),iv (401-d)] [] (bD (.gV [av (Cy (bR (bH eqs) k d).1),bv (bR (bH eqs) k d).2]) []))(d:Nat)(hd:d+1≤400)(r4:w.iX=4) :
 C E.P 153 [av (gR w),lv (cS eqs),iv (401-((d+1:Nat):Int))] [] (bD (.gV [av (Cy (bR (bH eqs) w (d+1)).1),bv (bR (bH eqs) w (d+1)).2]) []):=by
 have ht:=rB (bH eqs) w d
 refine gS (nt:=210) (rs:=[.cell 6 134,.tmp 7]) hm Tryz.func153 fun hl he cq=>?_
 have e:¬ (400:Int)<401-((d:Int)+1):=by omega
 have e2:(401:Int)-((d:Int)+1)+1=401-(d:Int):=by omega
 simp -implicitDefEqProofs only[go_sem,e]
 refine cQ hm (fun(i:Nat) (got:List fF)=> i≤w.kids.length∧got.length=i∧cO (bH eqs) w.kids d=(cO (bH eqs) (w.kids.drop i) d).map (fun es=>got++es)) (fun(i:Nat) (got:List fF)=> ⟨dH 210 .any [(1,lv (cS eqs)),(2,iv (401-((d:Int)+1))),(3,.ptr 0 0),(6,.ptr 1 0),(8,.acc 2),(20,lv (eL w.kids)),(21,iv w.kids.length),(22,iv i)],[some (.box (cF (gR w))),some (.box (cF (Cy u5))),some (.acc 134 (cS got))]⟩) (fun(i:Nat) (got:List fF)=> w.kids.length-i) (0) ([]) ?_ (ar [some 0,some 1,none] ?_ ?_ rfl rfl) ?_
 rotate_left
 ·exact sC
 ·exact sC
 rotate_left
 ·simp
 ·rintro i got ⟨hi,hgl,hg⟩
  rcases aa (i<w.kids.length) with h1|h1
  ·rw[nf h1] at hg
   refine uA ?_
   refine⟨by omega,?_⟩
   have hc:=ih w.kids[i] (ak h1) d (by omega)
   refine bp [] hc ?_ ?_<;>simp -implicitDefEqProofs only[go_sem,e2]
   cases h2:(bR (bH eqs) w.kids[i] d).2
   ·rw[h2] at hg
    simp only[aw,if_false,dG] at hg
    rw[hg] at ht
    simp only at ht
    refine sA ?_
    refine an ?_
    refine sA ?_
    all_goals(simp[ht,Ec,DP,mU,mI,fZ];done)
   ·rw[h2] at hg
    simp only[if_true] at hg
    refine sA ?_
    refine⟨by omega,by omega,?_⟩
    refine⟨i+1,got++[(bR (bH eqs) w.kids[i] d).1],?_,sL,ar [some 0,some 1,some 5] ?_ ?_ rfl rfl⟩
    rotate_left
    ·exact sC
    ·refine sA ?_
     all_goals((rw[←lK,jA,jL];rfl))
    refine⟨h1,by simp[hgl],?_⟩
    rw[hg]
    cases cO (bH eqs) (w.kids.drop (i+1)) d<;>simp
  ·rw[al (by omega),cO] at hg
   simp only[cz,bm] at hg
   rw[hg] at ht
   simp only at ht
   have gl:(got.length:Int)≤LB:=by omega
   rcases aa (w.n=0) with hn|hn
   ·simp -implicitDefEqProofs only[go_sem,Z1,h1,r4,hn,hY]
    refine aC [] (fN w.t) ?_
    cases hq:isNone w.t
    ·refine sA ?_
     refine an ?_
     refine sA ?_
     all_goals(simp[ht,bH,r4,hq];done)
    ·simp -implicitDefEqProofs only[go_sem,Z1]
     rcases aa ((got.length:Int)=2) with hz|hz
     ·have hz':got.length=2:=by omega
      have h0:0<got.length:=by omega
      have h2:1<got.length:=by omega
      have hg0:got.getD 0 u5=got[0]:=m9 h0 _
      have hg1:got.getD 1 u5=got[1]:=m9 h2 _
      have k:=eq_true hz
      simp -implicitDefEqProofs only[go_sem,Z3,Z4,k,h0,h2]
      refine aC [] (ib got[0].B got[1].A) ?_
      refine iK ?_
      rcases aa (got[0].B=got[1].A) with hs|hs
      ·have e3:bR (bH eqs) w (d+1)=(⟨got[0].A,got[1].B⟩,true):=by
        rw[ht,←hg0,←hg1]
        rw[←hg0,←hg1] at hs
        simp only[bH,r4,hn,hq,hz',hs]
        simp
       simp -implicitDefEqProofs only[go_sem,Z3,Z4,hs,h0,h2]
       refine iK ?_
       refine an ?_
       refine sA ?_
       all_goals(simp[e3];done)
      ·have e3:bR (bH eqs) w (d+1)=(u5,false):=by
        rw[ht]
        rw[←hg0,←hg1] at hs
        simp only[bH,r4,hn,hq,hz',hs]
        simp
       simp -implicitDefEqProofs only[go_sem,hs]
       refine an ?_
       refine sA ?_
       all_goals(simp[e3];done)
     ·have hz':¬got.length=2:=by omega
      simp -implicitDefEqProofs only[go_sem,hz]
      refine iK ?_
      skip
      refine an ?_
      refine sA ?_
      all_goals(simp[ht,bH,r4,hn,hq,hz'];done)
   ·simp -implicitDefEqProofs only[go_sem,Z1,h1,r4,hn,hY]
    refine an ?_
    refine sA ?_
    all_goals(simp[ht,bH,r4,hn];done)
theorem B8(eqs:List fF)(w:ju)(ih:∀k∈w.kids,∀d:Nat,d≤400→C E.P 153 [av (gR k),lv (cS eqs),iv (401-d)] [] (bD (.gV [av (Cy (bR (bH eqs) k d).1),bv (bR (bH eqs) k d).2]) []))(d:Nat)(hd:d≤400) :
 C E.P 153 [av (gR w),lv (cS eqs),iv (401-d)] [] (bD (.gV [av (Cy (bR (bH eqs) w d).1),bv (bR (bH eqs) w d).2]) []):=by
 cases d with
 | zero=>
   have ht:bR (bH eqs) w 0=(u5,false):=by cases w;rfl
   refine gS (nt:=210) (rs:=[.cell 6 134,.tmp 7]) hm Tryz.func153 fun hl he cq=>?_
   have e:(400:Int)<401-0:=by omega
   simp -implicitDefEqProofs only[go_sem,e]
   refine an ?_
   refine sA ?_
   all_goals(simp[ht];done)
 | succ d=>
   rcases aa (w.iX=1) with r1|r1
   ·exact wU eqs w ih d hd r1
   ·rcases aa (w.iX=2) with r2|r2
    ·exact xR eqs w ih d hd r2
    ·rcases aa (w.iX=3) with r3|r3
     ·exact vG eqs w ih d hd r3
     ·rcases aa (w.iX=4) with r4|r4
      ·exact wJ eqs w ih d hd r4
      ·rcases aa (w.iX=5) with r5|r5
       ·exact wK eqs w ih d hd r5
       ·exact wN eqs w ih d hd r1 r2 r3 r4 r5
theorem CT(eqs:List fF):∀(w:ju)(d:Nat),d≤400→C E.P 153 [av (gR w),lv (cS eqs),iv (401-d)] [] (bD (.gV [av (Cy (bR (bH eqs) w d).1),bv (bR (bH eqs) w d).2]) []):=
 ju.ind fun r n t ks ih d hd=>B8 eqs (.mk r n t ks) ih d hd
theorem wA(s:dI)(eqs:List fF)(w:ju):C E.P 78 [av (eu s),lv (cS eqs),av (gR w)] [] (bD (.gV [av (Cy ((ko s eqs w).getD u5)),bv (ko s eqs w).isSome]) []):=by
 have hw:ko s eqs w=if nk s eqs&&((bR (bH eqs) w 400).2&&nk s [(bR (bH eqs) w 400).1]) then some (bR (bH eqs) w 400).1 else none:=rfl
 have ht:=CT eqs w 400 (by omega)
 refine gS (nt:=38) (rs:=[.cell 6 134,.tmp 7]) hm Tryz.func78 fun hl he cq=>?_
 refine aC [] (B9 s eqs) ?_
 cases h1:nk s eqs
 ·rw[h1] at hw
  simp only[aK,aw,if_false] at hw
  refine sA ?_
  refine an ?_
  refine sA ?_
  all_goals(simp[hw];done)
 ·rw[h1] at hw
  simp only[aE] at hw
  refine sA ?_
  refine bp [] ht ?_ ?_<;>simp -implicitDefEqProofs only[go_sem,Int.reduceSub,xX]
  cases h2:(bR (bH eqs) w 400).2
  ·rw[h2] at hw
   simp only[aK,aw,if_false] at hw
   refine sA ?_
   refine an ?_
   refine sA ?_
   all_goals(simp[hw];done)
  ·rw[h2] at hw
   simp only[aE] at hw
   refine sA ?_
   refine bp [] (B9 s [(bR (bH eqs) w 400).1]) ?_ ?_<;>simp -implicitDefEqProofs only[go_sem,jA]
   cases h3:nk s [(bR (bH eqs) w 400).1]
   ·rw[h3] at hw
    simp only[aw,if_false] at hw
    refine sA ?_
    refine an ?_
    refine sA ?_
    all_goals(simp[hw];done)
   ·rw[h3] at hw
    simp only[if_true] at hw
    refine sA ?_
    refine aC [] (ic (bR (bH eqs) w 400).1.A) ?_
    refine aC [] (ic (bR (bH eqs) w 400).1.B) ?_
    refine iK ?_
    refine an ?_
    refine sA ?_
    all_goals(simp[hw];done)
end Go.Proofs.YtabembjmeobhoaaGreat
