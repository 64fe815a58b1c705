/-
  Plain laws on what an explanation derives. A step towards the exact laws.
-/
import Derived.Test.YtabembjmeobhoaaGreatKDH
set_option linter.unusedVariables false
set_option linter.unusedSimpArgs false
open Bool renaming false_eq_true→ax,true_and→aB,false_and→aK
open Classical renaming em→aa
open Int renaming reduceEq→hH
open List renaming drop_of_length_le→ai,getElem_mem→ak,append_nil→bl,map_append→cL
open Option renaming map_some→c8,map_none→dB
namespace Go.Proofs.YtabembjmeobhoaaGreat
open Go.Eng Go.Mod
set_option maxRecDepth 100000
theorem rB(f:Int→Int→Term→List fO→fO×Bool)(w:jy)(d:Nat):b7 f w (d+1)=match c7 f w.kids d with
 | none=>(uN,false)
 | some kids=>f w.iL w.n w.t kids:=by
 cases w;simp only[b7,jy.kids,jy.iL,jy.n,jy.t];rfl
theorem nd{f:Int→Int→Term→List fO→fO×Bool}{ws:List jy}{i:Nat}(h:i<ws.length)(d:Nat):c7 f (ws.drop i) d=if(b7 f ws[i] d).2 then(c7 f (ws.drop (i+1)) d).map (fun es=>(b7 f ws[i] d).1::es) else none:=by
 rw[List.drop_eq_getElem_cons h,c7]
theorem JG{α:Type}(f:α→Term){xs:List α}{i:Nat}(h:i<xs.length):aN ((xs.take i).map f)++[cT (f xs[i])]=aN ((xs.take (i+1)).map f):=by
 have e:xs.take (i+1)=xs.take i++[xs[i]]:=by rw[List.take_add_one,List.getElem?_eq_getElem h];rfl
 rw[e,cL,kN,kN,cL]
 rfl
open Int renaming reduceEq→Z1,reduceLT→Z2,reduceLE→Z3,reduceToNat→Z4
set_option maxHeartbeats 800000
theorem xu(eqs:List fO)(w:jy)(ih:∀k∈w.kids,∀d:Nat,d≤400→C E.P 153 [av (gQ k),lv (cO eqs),iv (401-d)] [] (bz (.gV [av (Cl (b7 (bR eqs) k d).1),bv (b7 (bR eqs) k d).2]) []))(d:Nat)(hd:d+1≤400)(r1:w.iL=1) :
 C E.P 153 [av (gQ w),lv (cO eqs),iv (401-((d+1:Nat):Int))] [] (bz (.gV [av (Cl (b7 (bR eqs) w (d+1)).1),bv (b7 (bR eqs) w (d+1)).2]) []):=by
 have ht:=rB (bR eqs) w d
 refine gS (nt:=210) (rs:=[.cell 6 134,.tmp 7]) hm Tryz.func153 fun hl he cq=>?_
 have e:¬ (400:Int)<401-((d:Int)+1):=by omega
 have e2:(401:Int)-((d:Int)+1)+1=401-(d:Int):=by omega
 simp -implicitDefEqProofs only[go_sem,e]
 refine cM hm (fun(i:Nat) (got:List fO)=> i≤w.kids.length∧got.length=i∧c7 (bR eqs) w.kids d=(c7 (bR eqs) (w.kids.drop i) d).map (fun es=>got++es)) (fun(i:Nat) (got:List fO)=> ⟨dx 210 .any [(1,lv (cO eqs)),(2,iv (401-((d:Int)+1))),(3,.ptr 0 0),(6,.ptr 1 0),(8,.acc 2),(20,lv (eC w.kids)),(21,iv w.kids.length),(22,iv i)],[some (.box (cE (gQ w))),some (.box (cE (Cl uN))),some (.acc 134 (cO got))]⟩) (fun(i:Nat) (got:List fO)=> w.kids.length-i) (0) ([]) ?_ (ar [some 0,some 1,none] ?_ ?_ rfl rfl) ?_
 rotate_left
 ·exact sC
 ·exact sC
 rotate_left
 ·simp
 ·rintro i got ⟨hi,hgl,hg⟩
  rcases aa (i<w.kids.length) with h1|h1
  ·rw[nd h1] at hg
   refine uA ?_
   refine⟨by omega,?_⟩
   have hc:=ih w.kids[i] (ak h1) d (by omega)
   refine bw [] hc ?_ ?_<;>simp -implicitDefEqProofs only[go_sem,e2]
   cases h2:(b7 (bR eqs) w.kids[i] d).2
   ·rw[h2] at hg
    simp only[ax,if_false,dB] at hg
    rw[hg] at ht
    simp only at ht
    refine sA ?_
    refine an ?_
    refine sA ?_
    all_goals(simp[ht,DY,Dy,mG,mN,fX];done)
   ·rw[h2] at hg
    simp only[if_true] at hg
    refine sA ?_
    refine⟨by omega,by omega,?_⟩
    refine⟨i+1,got++[(b7 (bR eqs) w.kids[i] d).1],?_,sL,ar [some 0,some 1,some 5] ?_ ?_ rfl rfl⟩
    rotate_left
    ·exact sC
    ·refine sA ?_
     all_goals((rw[←lC,ju,jI];rfl))
    refine⟨h1,by simp[hgl],?_⟩
    rw[hg]
    cases c7 (bR eqs) (w.kids.drop (i+1)) d<;>simp
  ·rw[ai (by omega),c7] at hg
   simp only[c8,bl] at hg
   rw[hg] at ht
   simp only at ht
   have gl:(got.length:Int)≤LB:=by omega
   rcases aa (w.n=0) with hn|hn
   ·rcases aa ((got.length:Int)=0) with hz|hz
    ·have hz':got.length=0:=by omega
     simp -implicitDefEqProofs only[go_sem,Z1,h1,r1,hn,hz,hH]
     refine aC [] (iz w.t) ?_
     refine iK ?_
     skip
     refine an ?_
     refine sA ?_
     all_goals(simp[ht,bR,r1,hn,hz'];done)
    ·have hz':¬got.length=0:=by omega
     simp -implicitDefEqProofs only[go_sem,Z1,h1,r1,hn,hz,hH]
     refine iK ?_
     skip
     refine an ?_
     refine sA ?_
     all_goals(simp[ht,bR,r1,hn,hz'];done)
   ·simp -implicitDefEqProofs only[go_sem,Z1,h1,r1,hn,hH]
    refine an ?_
    refine sA ?_
    all_goals(simp[ht,bR,r1,hn];done)
theorem xP(eqs:List fO)(w:jy)(ih:∀k∈w.kids,∀d:Nat,d≤400→C E.P 153 [av (gQ k),lv (cO eqs),iv (401-d)] [] (bz (.gV [av (Cl (b7 (bR eqs) k d).1),bv (b7 (bR eqs) k d).2]) []))(d:Nat)(hd:d+1≤400)(r2:w.iL=2) :
 C E.P 153 [av (gQ w),lv (cO eqs),iv (401-((d+1:Nat):Int))] [] (bz (.gV [av (Cl (b7 (bR eqs) w (d+1)).1),bv (b7 (bR eqs) w (d+1)).2]) []):=by
 have ht:=rB (bR eqs) w d
 refine gS (nt:=210) (rs:=[.cell 6 134,.tmp 7]) hm Tryz.func153 fun hl he cq=>?_
 have e:¬ (400:Int)<401-((d:Int)+1):=by omega
 have e2:(401:Int)-((d:Int)+1)+1=401-(d:Int):=by omega
 simp -implicitDefEqProofs only[go_sem,e]
 refine cM hm (fun(i:Nat) (got:List fO)=> i≤w.kids.length∧got.length=i∧c7 (bR eqs) w.kids d=(c7 (bR eqs) (w.kids.drop i) d).map (fun es=>got++es)) (fun(i:Nat) (got:List fO)=> ⟨dx 210 .any [(1,lv (cO eqs)),(2,iv (401-((d:Int)+1))),(3,.ptr 0 0),(6,.ptr 1 0),(8,.acc 2),(20,lv (eC w.kids)),(21,iv w.kids.length),(22,iv i)],[some (.box (cE (gQ w))),some (.box (cE (Cl uN))),some (.acc 134 (cO got))]⟩) (fun(i:Nat) (got:List fO)=> w.kids.length-i) (0) ([]) ?_ (ar [some 0,some 1,none] ?_ ?_ rfl rfl) ?_
 rotate_left
 ·exact sC
 ·exact sC
 rotate_left
 ·simp
 ·rintro i got ⟨hi,hgl,hg⟩
  rcases aa (i<w.kids.length) with h1|h1
  ·rw[nd h1] at hg
   refine uA ?_
   refine⟨by omega,?_⟩
   have hc:=ih w.kids[i] (ak h1) d (by omega)
   refine bw [] hc ?_ ?_<;>simp -implicitDefEqProofs only[go_sem,e2]
   cases h2:(b7 (bR eqs) w.kids[i] d).2
   ·rw[h2] at hg
    simp only[ax,if_false,dB] at hg
    rw[hg] at ht
    simp only at ht
    refine sA ?_
    refine an ?_
    refine sA ?_
    all_goals(simp[ht,DY,Dy,mG,mN,fX];done)
   ·rw[h2] at hg
    simp only[if_true] at hg
    refine sA ?_
    refine⟨by omega,by omega,?_⟩
    refine⟨i+1,got++[(b7 (bR eqs) w.kids[i] d).1],?_,sL,ar [some 0,some 1,some 5] ?_ ?_ rfl rfl⟩
    rotate_left
    ·exact sC
    ·refine sA ?_
     all_goals((rw[←lC,ju,jI];rfl))
    refine⟨h1,by simp[hgl],?_⟩
    rw[hg]
    cases c7 (bR eqs) (w.kids.drop (i+1)) d<;>simp
  ·rw[ai (by omega),c7] at hg
   simp only[c8,bl] at hg
   rw[hg] at ht
   simp only at ht
   have gl:(got.length:Int)≤LB:=by omega
   simp -implicitDefEqProofs only[go_sem,Z1,h1,r2,hH]
   refine aC [] (fH w.t) ?_
   cases hq:isNone w.t
   ·refine sA ?_
    refine an ?_
    refine sA ?_
    all_goals(simp[ht,bR,r2,hq];done)
   ·simp -implicitDefEqProofs only[go_sem,Z1]
    rcases aa ((0:Int)<(got.length:Int)) with hz|hz
    ·have hz':0<got.length:=by omega
     simp -implicitDefEqProofs only[go_sem,hz]
     refine an ?_
     refine sA ?_
     all_goals(simp[ht,bR,r2,hq,hz'];done)
    ·have hz':¬0<got.length:=by omega
     simp -implicitDefEqProofs only[go_sem,hz]
     refine⟨by omega,?_⟩
     refine aC [] (fj w.n 0 ((eqs.length:Int)-1)) ?_
     cases hw:within w.n 0 ((eqs.length:Int)-1)
     ·refine sA ?_
      refine an ?_
      refine sA ?_
      all_goals(simp[ht,bR,r2,hq,hz',hw];done)
     ·have hw':=dj.1 hw
      have h0:0≤w.n:=hw'.1
      have lL:w.n.toNat<eqs.length:=by omega
      have hg2:eqs.getD w.n.toNat uN=eqs[w.n.toNat]:=m9 lL _
      simp -implicitDefEqProofs only[go_sem,h0,lL]
      have e3:b7 (bR eqs) w (d+1)=(eqs[w.n.toNat],true):=by rw[ht,←hg2];simp[bR,r2,hq,hz',hw]
      refine an ?_
      refine sA ?_
      all_goals(simp[e3];done)
theorem wq(eqs:List fO)(w:jy)(ih:∀k∈w.kids,∀d:Nat,d≤400→C E.P 153 [av (gQ k),lv (cO eqs),iv (401-d)] [] (bz (.gV [av (Cl (b7 (bR eqs) k d).1),bv (b7 (bR eqs) k d).2]) []))(d:Nat)(hd:d+1≤400)(r3:w.iL=3) :
 C E.P 153 [av (gQ w),lv (cO eqs),iv (401-((d+1:Nat):Int))] [] (bz (.gV [av (Cl (b7 (bR eqs) w (d+1)).1),bv (b7 (bR eqs) w (d+1)).2]) []):=by
 have ht:=rB (bR eqs) w d
 refine gS (nt:=210) (rs:=[.cell 6 134,.tmp 7]) hm Tryz.func153 fun hl he cq=>?_
 have e:¬ (400:Int)<401-((d:Int)+1):=by omega
 have e2:(401:Int)-((d:Int)+1)+1=401-(d:Int):=by omega
 simp -implicitDefEqProofs only[go_sem,e]
 refine cM hm (fun(i:Nat) (got:List fO)=> i≤w.kids.length∧got.length=i∧c7 (bR eqs) w.kids d=(c7 (bR eqs) (w.kids.drop i) d).map (fun es=>got++es)) (fun(i:Nat) (got:List fO)=> ⟨dx 210 .any [(1,lv (cO eqs)),(2,iv (401-((d:Int)+1))),(3,.ptr 0 0),(6,.ptr 1 0),(8,.acc 2),(20,lv (eC w.kids)),(21,iv w.kids.length),(22,iv i)],[some (.box (cE (gQ w))),some (.box (cE (Cl uN))),some (.acc 134 (cO got))]⟩) (fun(i:Nat) (got:List fO)=> w.kids.length-i) (0) ([]) ?_ (ar [some 0,some 1,none] ?_ ?_ rfl rfl) ?_
 rotate_left
 ·exact sC
 ·exact sC
 rotate_left
 ·simp
 ·rintro i got ⟨hi,hgl,hg⟩
  rcases aa (i<w.kids.length) with h1|h1
  ·rw[nd h1] at hg
   refine uA ?_
   refine⟨by omega,?_⟩
   have hc:=ih w.kids[i] (ak h1) d (by omega)
   refine bw [] hc ?_ ?_<;>simp -implicitDefEqProofs only[go_sem,e2]
   cases h2:(b7 (bR eqs) w.kids[i] d).2
   ·rw[h2] at hg
    simp only[ax,if_false,dB] at hg
    rw[hg] at ht
    simp only at ht
    refine sA ?_
    refine an ?_
    refine sA ?_
    all_goals(simp[ht,DY,Dy,mG,mN,fX];done)
   ·rw[h2] at hg
    simp only[if_true] at hg
    refine sA ?_
    refine⟨by omega,by omega,?_⟩
    refine⟨i+1,got++[(b7 (bR eqs) w.kids[i] d).1],?_,sL,ar [some 0,some 1,some 5] ?_ ?_ rfl rfl⟩
    rotate_left
    ·exact sC
    ·refine sA ?_
     all_goals((rw[←lC,ju,jI];rfl))
    refine⟨h1,by simp[hgl],?_⟩
    rw[hg]
    cases c7 (bR eqs) (w.kids.drop (i+1)) d<;>simp
  ·rw[ai (by omega),c7] at hg
   simp only[c8,bl] at hg
   rw[hg] at ht
   simp only at ht
   have gl:(got.length:Int)≤LB:=by omega
   have r1:¬w.iL=1:=by omega
   have r2:¬w.iL=2:=by omega
   have r5:¬w.iL=5:=by omega
   rcases aa (w.n=0) with hn|hn
   ·simp -implicitDefEqProofs only[go_sem,Z1,h1,r3,hn,hH]
    refine aC [] (fH w.t) ?_
    cases hq:isNone w.t
    ·refine sA ?_
     refine an ?_
     refine sA ?_
     all_goals(simp[ht,bR,r3,hq];done)
    ·simp -implicitDefEqProofs only[go_sem,Z1]
     rcases aa ((got.length:Int)=1) with hz|hz
     ·have hz':got.length=1:=by omega
      have h0:0<got.length:=by omega
      have hg0:got.getD 0 uN=got[0]:=m9 h0 _
      simp -implicitDefEqProofs only[go_sem,hz,h0]
      refine iK ?_
      have e3:b7 (bR eqs) w (d+1)=(⟨got[0].B,got[0].A⟩,true):=by rw[ht,←hg0];simp[bR,r3,hn,hq,hz']
      refine an ?_
      refine sA ?_
      all_goals(simp[e3];done)
     ·have hz':¬got.length=1:=by omega
      simp -implicitDefEqProofs only[go_sem,hz]
      refine an ?_
      refine sA ?_
      all_goals(simp[ht,bR,r3,hn,hq,hz'];done)
   ·simp -implicitDefEqProofs only[go_sem,Z1,h1,r3,hn,hH]
    refine an ?_
    refine sA ?_
    all_goals(simp[ht,bR,r3,hn];done)
theorem wI(eqs:List fO)(w:jy)(ih:∀k∈w.kids,∀d:Nat,d≤400→C E.P 153 [av (gQ k),lv (cO eqs),iv (401-d)] [] (bz (.gV [av (Cl (b7 (bR eqs) k d).1),bv (b7 (bR eqs) k d).2]) []))(d:Nat)(hd:d+1≤400)(r1:¬w.iL=1)(r2:¬w.iL=2)(r3:¬w.iL=3)(r4:¬w.iL=4)(r5:¬w.iL=5) :
 C E.P 153 [av (gQ w),lv (cO eqs),iv (401-((d+1:Nat):Int))] [] (bz (.gV [av (Cl (b7 (bR eqs) w (d+1)).1),bv (b7 (bR eqs) w (d+1)).2]) []):=by
 have ht:=rB (bR eqs) w d
 refine gS (nt:=210) (rs:=[.cell 6 134,.tmp 7]) hm Tryz.func153 fun hl he cq=>?_
 have e:¬ (400:Int)<401-((d:Int)+1):=by omega
 have e2:(401:Int)-((d:Int)+1)+1=401-(d:Int):=by omega
 simp -implicitDefEqProofs only[go_sem,e]
 refine cM hm (fun(i:Nat) (got:List fO)=> i≤w.kids.length∧got.length=i∧c7 (bR eqs) w.kids d=(c7 (bR eqs) (w.kids.drop i) d).map (fun es=>got++es)) (fun(i:Nat) (got:List fO)=> ⟨dx 210 .any [(1,lv (cO eqs)),(2,iv (401-((d:Int)+1))),(3,.ptr 0 0),(6,.ptr 1 0),(8,.acc 2),(20,lv (eC w.kids)),(21,iv w.kids.length),(22,iv i)],[some (.box (cE (gQ w))),some (.box (cE (Cl uN))),some (.acc 134 (cO got))]⟩) (fun(i:Nat) (got:List fO)=> w.kids.length-i) (0) ([]) ?_ (ar [some 0,some 1,none] ?_ ?_ rfl rfl) ?_
 rotate_left
 ·exact sC
 ·exact sC
 rotate_left
 ·simp
 ·rintro i got ⟨hi,hgl,hg⟩
  rcases aa (i<w.kids.length) with h1|h1
  ·rw[nd h1] at hg
   refine uA ?_
   refine⟨by omega,?_⟩
   have hc:=ih w.kids[i] (ak h1) d (by omega)
   refine bw [] hc ?_ ?_<;>simp -implicitDefEqProofs only[go_sem,e2]
   cases h2:(b7 (bR eqs) w.kids[i] d).2
   ·rw[h2] at hg
    simp only[ax,if_false,dB] at hg
    rw[hg] at ht
    simp only at ht
    refine sA ?_
    refine an ?_
    refine sA ?_
    all_goals(simp[ht,DY,Dy,mG,mN,fX];done)
   ·rw[h2] at hg
    simp only[if_true] at hg
    refine sA ?_
    refine⟨by omega,by omega,?_⟩
    refine⟨i+1,got++[(b7 (bR eqs) w.kids[i] d).1],?_,sL,ar [some 0,some 1,some 5] ?_ ?_ rfl rfl⟩
    rotate_left
    ·exact sC
    ·refine sA ?_
     all_goals((rw[←lC,ju,jI];rfl))
    refine⟨h1,by simp[hgl],?_⟩
    rw[hg]
    cases c7 (bR eqs) (w.kids.drop (i+1)) d<;>simp
  ·rw[ai (by omega),c7] at hg
   simp only[c8,bl] at hg
   rw[hg] at ht
   simp only at ht
   have gl:(got.length:Int)≤LB:=by omega
   rcases aa (w.n=0) with hn|hn
   ·simp -implicitDefEqProofs only[go_sem,h1,r1,r5,r2,hn]
    refine aC [] (fH w.t) ?_
    cases hq:isNone w.t
    ·refine sA ?_
     refine an ?_
     refine sA ?_
     all_goals(simp[ht,bR,r1,r2,r5,hq];done)
    ·simp -implicitDefEqProofs only[go_sem,r1,r2,r3,r4,r5]
     refine an ?_
     refine sA ?_
     all_goals(simp[ht,bR,r1,r2,r3,r4,r5,hn,hq];done)
   ·simp -implicitDefEqProofs only[go_sem,h1,r2,hn]
    refine an ?_
    refine sA ?_
    all_goals(simp[ht,bR,r2,hn];done)
theorem wF(eqs:List fO)(w:jy)(ih:∀k∈w.kids,∀d:Nat,d≤400→C E.P 153 [av (gQ k),lv (cO eqs),iv (401-d)] [] (bz (.gV [av (Cl (b7 (bR eqs) k d).1),bv (b7 (bR eqs) k d).2]) []))(d:Nat)(hd:d+1≤400)(r5:w.iL=5) :
 C E.P 153 [av (gQ w),lv (cO eqs),iv (401-((d+1:Nat):Int))] [] (bz (.gV [av (Cl (b7 (bR eqs) w (d+1)).1),bv (b7 (bR eqs) w (d+1)).2]) []):=by
 have ht:=rB (bR eqs) w d
 refine gS (nt:=210) (rs:=[.cell 6 134,.tmp 7]) hm Tryz.func153 fun hl he cq=>?_
 have e:¬ (400:Int)<401-((d:Int)+1):=by omega
 have e2:(401:Int)-((d:Int)+1)+1=401-(d:Int):=by omega
 simp -implicitDefEqProofs only[go_sem,e]
 refine cM hm (fun(i:Nat) (got:List fO)=> i≤w.kids.length∧got.length=i∧c7 (bR eqs) w.kids d=(c7 (bR eqs) (w.kids.drop i) d).map (fun es=>got++es)) (fun(i:Nat) (got:List fO)=> ⟨dx 210 .any [(1,lv (cO eqs)),(2,iv (401-((d:Int)+1))),(3,.ptr 0 0),(6,.ptr 1 0),(8,.acc 2),(20,lv (eC w.kids)),(21,iv w.kids.length),(22,iv i)],[some (.box (cE (gQ w))),some (.box (cE (Cl uN))),some (.acc 134 (cO got))]⟩) (fun(i:Nat) (got:List fO)=> w.kids.length-i) (0) ([]) ?_ (ar [some 0,some 1,none] ?_ ?_ rfl rfl) ?_
 rotate_left
 ·exact sC
 ·exact sC
 rotate_left
 ·simp
 ·rintro i got ⟨hi,hgl,hg⟩
  rcases aa (i<w.kids.length) with h1|h1
  ·rw[nd h1] at hg
   refine uA ?_
   refine⟨by omega,?_⟩
   have hc:=ih w.kids[i] (ak h1) d (by omega)
   refine bw [] hc ?_ ?_<;>simp -implicitDefEqProofs only[go_sem,e2]
   cases h2:(b7 (bR eqs) w.kids[i] d).2
   ·rw[h2] at hg
    simp only[ax,if_false,dB] at hg
    rw[hg] at ht
    simp only at ht
    refine sA ?_
    refine an ?_
    refine sA ?_
    all_goals(simp[ht,DY,Dy,mG,mN,fX];done)
   ·rw[h2] at hg
    simp only[if_true] at hg
    refine sA ?_
    refine⟨by omega,by omega,?_⟩
    refine⟨i+1,got++[(b7 (bR eqs) w.kids[i] d).1],?_,sL,ar [some 0,some 1,some 5] ?_ ?_ rfl rfl⟩
    rotate_left
    ·exact sC
    ·refine sA ?_
     all_goals((rw[←lC,ju,jI];rfl))
    refine⟨h1,by simp[hgl],?_⟩
    rw[hg]
    cases c7 (bR eqs) (w.kids.drop (i+1)) d<;>simp
  ·rw[ai (by omega),c7] at hg
   simp only[c8,bl] at hg
   rw[hg] at ht
   simp only at ht
   have gl:(got.length:Int)≤LB:=by omega
   rcases aa (w.n=0) with hn|hn
   ·rcases aa ((got.length:Int)=0) with hz|hz
    ·have hz':got.length=0:=by omega
     simp -implicitDefEqProofs only[go_sem,Z1,h1,r5,hn,hz,hH]
     refine an ?_
     refine sA ?_
     all_goals(simp[ht,bR,r5,hn,hz'];done)
    ·have hz':¬got.length=0:=by omega
     simp -implicitDefEqProofs only[go_sem,Z1,h1,r5,hn,hz,hH]
     refine aC [] (qg w.t.name) ?_
     cases hq:fC w.t.name
     ·refine sA ?_
      refine an ?_
      refine sA ?_
      all_goals(simp[ht,bR,r5,hn,hz',hq];done)
     ·refine sA ?_
      rcases aa ((0:Int)<(w.t.kids.length:Int)) with hk|hk
      ·have hk':0<w.t.kids.length:=by omega
       simp -implicitDefEqProofs only[go_sem,hk]
       refine an ?_
       refine sA ?_
       all_goals(simp[ht,bR,r5,hn,hz',hq,hk'];done)
      ·have hk':¬0<w.t.kids.length:=by omega
       simp -implicitDefEqProofs only[go_sem,hk]
       refine aL hm (fun(j:Nat)=> j≤got.length) (fun(j:Nat)=> ⟨dx 210 .any [(6,.ptr 0 0),(13,.ptr 1 0),(175,.acc 2),(176,iv got.length),(177,iv j)],[some (.box (cE (Cl uN))),some (.box [.d (.str w.t.name),.acc 3,.d (.str w.t.name),.acc 4]),some (.acc 134 (cO got)),some (.acc 34 (aN ((got.take j).map (·.A)))),some (.acc 34 (aN ((got.take j).map (·.B))))]⟩) (fun(j:Nat)=> got.length-j) (0) ?_ (ar [some 1,some 3,some 2,none,none] ?_ ?_ rfl rfl) ?_
       rotate_left
       ·exact sC
       ·exact sC
       rotate_left
       ·omega
       ·rintro j hj
        rcases aa (j<got.length) with h3|h3
        ·refine uC ?_
         refine sQ ?_
         refine⟨j+1,?_,sL,ar [some 0,some 1,some 2,some 6,some 7] ?_ ?_ rfl rfl⟩
         rotate_left
         ·exact sC
         ·refine sA ?_
          all_goals(exact⟨JG _ h3,JG _ h3⟩)
         exact h3
        ·have e3:b7 (bR eqs) w (d+1)=(⟨.mk w.t.name (got.map (·.A)),.mk w.t.name (got.map (·.B))⟩,isTerm (.mk w.t.name (got.map (·.A)))&&isTerm (.mk w.t.name (got.map (·.B)))):=by rw[ht];simp[bR,r5,hn,hz',hq,hk']
         have et:got.take j=got:=List.take_of_length_le (by omega)
         simp -implicitDefEqProofs only[go_sem,h3,et]
         refine dH [] [3] (iz (.mk w.t.name (got.map (·.A)))) rfl ?_ ?_ ?_
         ·exact sV
         all_goals simp -implicitDefEqProofs only[go_sem]
         cases hA:isTerm (.mk w.t.name (got.map (·.A)))
         ·refine sA ?_
          refine iK ?_
          refine an ?_
          refine sA ?_
          all_goals(simp[e3,hA];done)
         ·refine sA ?_
          refine dH [] [4] (iz (.mk w.t.name (got.map (·.B)))) rfl ?_ ?_ ?_
          ·exact sV
          all_goals simp -implicitDefEqProofs only[go_sem]
          refine iK ?_
          refine an ?_
          refine sA ?_
          all_goals(simp[e3,hA];done)
   ·simp -implicitDefEqProofs only[go_sem,Z1,h1,r5,hn,hH]
    refine an ?_
    refine sA ?_
    all_goals(simp[ht,bR,r5,hn];done)
theorem wG(eqs:List fO)(w:jy)(ih:∀k∈w.kids,∀d:Nat,d≤400→C E.P 153 [av (gQ k),lv (cO eqs),iv (401-d)] [] (bz (.gV [av (Cl (b7 (bR eqs) k d).1),bv (b7 (bR eqs) k d).2]) []))(d:Nat)(hd:d+1≤400)(r4:w.iL=4) :
 C E.P 153 [av (gQ w),lv (cO eqs),iv (401-((d+1:Nat):Int))] [] (bz (.gV [av (Cl (b7 (bR eqs) w (d+1)).1),bv (b7 (bR eqs) w (d+1)).2]) []):=by
 have ht:=rB (bR eqs) w d
 refine gS (nt:=210) (rs:=[.cell 6 134,.tmp 7]) hm Tryz.func153 fun hl he cq=>?_
 have e:¬ (400:Int)<401-((d:Int)+1):=by omega
 have e2:(401:Int)-((d:Int)+1)+1=401-(d:Int):=by omega
 simp -implicitDefEqProofs only[go_sem,e]
 refine cM hm (fun(i:Nat) (got:List fO)=> i≤w.kids.length∧got.length=i∧c7 (bR eqs) w.kids d=(c7 (bR eqs) (w.kids.drop i) d).map (fun es=>got++es)) (fun(i:Nat) (got:List fO)=> ⟨dx 210 .any [(1,lv (cO eqs)),(2,iv (401-((d:Int)+1))),(3,.ptr 0 0),(6,.ptr 1 0),(8,.acc 2),(20,lv (eC w.kids)),(21,iv w.kids.length),(22,iv i)],[some (.box (cE (gQ w))),some (.box (cE (Cl uN))),some (.acc 134 (cO got))]⟩) (fun(i:Nat) (got:List fO)=> w.kids.length-i) (0) ([]) ?_ (ar [some 0,some 1,none] ?_ ?_ rfl rfl) ?_
 rotate_left
 ·exact sC
 ·exact sC
 rotate_left
 ·simp
 ·rintro i got ⟨hi,hgl,hg⟩
  rcases aa (i<w.kids.length) with h1|h1
  ·rw[nd h1] at hg
   refine uA ?_
   refine⟨by omega,?_⟩
   have hc:=ih w.kids[i] (ak h1) d (by omega)
   refine bw [] hc ?_ ?_<;>simp -implicitDefEqProofs only[go_sem,e2]
   cases h2:(b7 (bR eqs) w.kids[i] d).2
   ·rw[h2] at hg
    simp only[ax,if_false,dB] at hg
    rw[hg] at ht
    simp only at ht
    refine sA ?_
    refine an ?_
    refine sA ?_
    all_goals(simp[ht,DY,Dy,mG,mN,fX];done)
   ·rw[h2] at hg
    simp only[if_true] at hg
    refine sA ?_
    refine⟨by omega,by omega,?_⟩
    refine⟨i+1,got++[(b7 (bR eqs) w.kids[i] d).1],?_,sL,ar [some 0,some 1,some 5] ?_ ?_ rfl rfl⟩
    rotate_left
    ·exact sC
    ·refine sA ?_
     all_goals((rw[←lC,ju,jI];rfl))
    refine⟨h1,by simp[hgl],?_⟩
    rw[hg]
    cases c7 (bR eqs) (w.kids.drop (i+1)) d<;>simp
  ·rw[ai (by omega),c7] at hg
   simp only[c8,bl] at hg
   rw[hg] at ht
   simp only at ht
   have gl:(got.length:Int)≤LB:=by omega
   rcases aa (w.n=0) with hn|hn
   ·simp -implicitDefEqProofs only[go_sem,Z1,h1,r4,hn,hH]
    refine aC [] (fH w.t) ?_
    cases hq:isNone w.t
    ·refine sA ?_
     refine an ?_
     refine sA ?_
     all_goals(simp[ht,bR,r4,hq];done)
    ·simp -implicitDefEqProofs only[go_sem,Z1]
     rcases aa ((got.length:Int)=2) with hz|hz
     ·have hz':got.length=2:=by omega
      have h0:0<got.length:=by omega
      have h2:1<got.length:=by omega
      have hg0:got.getD 0 uN=got[0]:=m9 h0 _
      have hg1:got.getD 1 uN=got[1]:=m9 h2 _
      have k:=eq_true hz
      simp -implicitDefEqProofs only[go_sem,Z3,Z4,k,h0,h2]
      refine aC [] (fG got[0].B got[1].A) ?_
      refine iK ?_
      rcases aa (got[0].B=got[1].A) with hs|hs
      ·have e3:b7 (bR eqs) w (d+1)=(⟨got[0].A,got[1].B⟩,true):=by
        rw[ht,←hg0,←hg1]
        rw[←hg0,←hg1] at hs
        simp only[bR,r4,hn,hq,hz',hs]
        simp
       simp -implicitDefEqProofs only[go_sem,Z3,Z4,hs,h0,h2]
       refine iK ?_
       refine an ?_
       refine sA ?_
       all_goals(simp[e3];done)
      ·have e3:b7 (bR eqs) w (d+1)=(uN,false):=by
        rw[ht]
        rw[←hg0,←hg1] at hs
        simp only[bR,r4,hn,hq,hz',hs]
        simp
       simp -implicitDefEqProofs only[go_sem,hs]
       refine an ?_
       refine sA ?_
       all_goals(simp[e3];done)
     ·have hz':¬got.length=2:=by omega
      simp -implicitDefEqProofs only[go_sem,hz]
      refine iK ?_
      skip
      refine an ?_
      refine sA ?_
      all_goals(simp[ht,bR,r4,hn,hq,hz'];done)
   ·simp -implicitDefEqProofs only[go_sem,Z1,h1,r4,hn,hH]
    refine an ?_
    refine sA ?_
    all_goals(simp[ht,bR,r4,hn];done)
theorem AU(eqs:List fO)(w:jy)(ih:∀k∈w.kids,∀d:Nat,d≤400→C E.P 153 [av (gQ k),lv (cO eqs),iv (401-d)] [] (bz (.gV [av (Cl (b7 (bR eqs) k d).1),bv (b7 (bR eqs) k d).2]) []))(d:Nat)(hd:d≤400) :
 C E.P 153 [av (gQ w),lv (cO eqs),iv (401-d)] [] (bz (.gV [av (Cl (b7 (bR eqs) w d).1),bv (b7 (bR eqs) w d).2]) []):=by
 cases d with
 | zero=>
   have ht:b7 (bR eqs) w 0=(uN,false):=by cases w;rfl
   refine gS (nt:=210) (rs:=[.cell 6 134,.tmp 7]) hm Tryz.func153 fun hl he cq=>?_
   have e:(400:Int)<401-0:=by omega
   simp -implicitDefEqProofs only[go_sem,e]
   refine an ?_
   refine sA ?_
   all_goals(simp[ht];done)
 | succ d=>
   rcases aa (w.iL=1) with r1|r1
   ·exact xu eqs w ih d hd r1
   ·rcases aa (w.iL=2) with r2|r2
    ·exact xP eqs w ih d hd r2
    ·rcases aa (w.iL=3) with r3|r3
     ·exact wq eqs w ih d hd r3
     ·rcases aa (w.iL=4) with r4|r4
      ·exact wG eqs w ih d hd r4
      ·rcases aa (w.iL=5) with r5|r5
       ·exact wF eqs w ih d hd r5
       ·exact wI eqs w ih d hd r1 r2 r3 r4 r5
theorem Cs(eqs:List fO):∀(w:jy)(d:Nat),d≤400→C E.P 153 [av (gQ w),lv (cO eqs),iv (401-d)] [] (bz (.gV [av (Cl (b7 (bR eqs) w d).1),bv (b7 (bR eqs) w d).2]) []):=
 jy.ind fun r n t ks ih d hd=>AU eqs (.mk r n t ks) ih d hd
theorem wy(s:dK)(eqs:List fO)(w:jy):C E.P 78 [av (dV s),lv (cO eqs),av (gQ w)] [] (bz (.gV [av (Cl ((lN s eqs w).getD uN)),bv (lN s eqs w).isSome]) []):=by
 have hw:lN s eqs w=if nE s eqs&&((b7 (bR eqs) w 400).2&&nE s [(b7 (bR eqs) w 400).1]) then some (b7 (bR eqs) w 400).1 else none:=rfl
 have ht:=Cs eqs w 400 (by omega)
 refine gS (nt:=38) (rs:=[.cell 6 134,.tmp 7]) hm Tryz.func78 fun hl he cq=>?_
 refine aC [] (Bp s eqs) ?_
 cases h1:nE s eqs
 ·rw[h1] at hw
  simp only[aK,ax,if_false] at hw
  refine sA ?_
  refine an ?_
  refine sA ?_
  all_goals(simp[hw];done)
 ·rw[h1] at hw
  simp only[aB] at hw
  refine sA ?_
  refine bw [] ht ?_ ?_<;>simp -implicitDefEqProofs only[go_sem,Int.reduceSub,xM]
  cases h2:(b7 (bR eqs) w 400).2
  ·rw[h2] at hw
   simp only[aK,ax,if_false] at hw
   refine sA ?_
   refine an ?_
   refine sA ?_
   all_goals(simp[hw];done)
  ·rw[h2] at hw
   simp only[aB] at hw
   refine sA ?_
   refine bw [] (Bp s [(b7 (bR eqs) w 400).1]) ?_ ?_<;>simp -implicitDefEqProofs only[go_sem,ju]
   cases h3:nE s [(b7 (bR eqs) w 400).1]
   ·rw[h3] at hw
    simp only[ax,if_false] at hw
    refine sA ?_
    refine an ?_
    refine sA ?_
    all_goals(simp[hw];done)
   ·rw[h3] at hw
    simp only[if_true] at hw
    refine sA ?_
    refine aC [] (hQ (b7 (bR eqs) w 400).1.A) ?_
    refine aC [] (hQ (b7 (bR eqs) w 400).1.B) ?_
    refine iK ?_
    refine an ?_
    refine sA ?_
    all_goals(simp[hw];done)
end Go.Proofs.YtabembjmeobhoaaGreat
