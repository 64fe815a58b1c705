/-
  The program: the search, where nothing can be found. A step towards the laws.
-/
import Derived.Test.YtgpjhjalfakpoaaGreatKAEo
import Derived.Test.YtgpjhjalfakpoaaGreatKAm
import Derived.Test.YtgpjhjalfakpoaaGreatKAyc
set_option linter.unusedVariables false
set_option linter.unusedSimpArgs false
open And renaming intro→aH
open Bool renaming false_eq_true→ak
open Classical renaming em→aa
open List renaming length_map→bj,mem_map→bO
namespace Go.Proofs.YtgpjhjalfakpoaaGreat
open Go.Eng Go.Mod
open Int renaming reduceEq→Z1,reduceLT→Z2,reduceLE→Z3,reduceToNat→Z4
set_option maxRecDepth 100000
set_option maxHeartbeats 1600000
theorem BI{E:Env}{o:Oper}{g g':G}{rest:ll→Option (List Ky)→G→Prop}(hw:qT E.P g g')(h:ob E none none o g' rest):ob E none none o g rest:=by
 rcases h with⟨R,δ,h1,h2⟩|⟨_,_,g2,hw2,R,δ,h1,h2⟩
 ·exact .inr ⟨rfl,rfl,g',hw,R,δ,h1,h2⟩
 ·exact .inr ⟨rfl,rfl,g2,hw.trans hw2,R,δ,h1,h2⟩
theorem tz:C E.P 59 [.aY] [] (bB (.acc 0) [some (.acc 3 (aL []))]):=by
 refine gS (nt:=8) (rs:=[.tmp 2]) hm Tryz.func59 fun hl he cx=>?_
 refine xq 3 _ true rfl rfl (by simp -implicitDefEqProofs only[go_sem]) tf ?_
 refine sA ?_
 refine bu [none] ?_ rfl rfl
 exact sC
theorem mF(ns:List Int)(hl1:ns.length≤1000):C E.P 59 [lv (aL ns)] [] (bB (.acc 0) [some (.acc 3 (aL ns))]):=by
 cases ns with
 | nil=>exact E2 tz mX
 | cons x xs=>exact nW (x::xs) (by simp) hl1
theorem pF:C E.P 100 [lv (aL [])] [] (bB (.gL [lv (aL []),bv true]) []):=by
 refine gS (nt:=29) (rs:=[.tmp 2,.tmp 3]) hm Tryz.func100 fun hl he cx=>?_
 refine aG hm (fun(i:Nat)=> i=0) (fun(i:Nat)=> ⟨eE 29 .any [(0,lv (aL [])),(7,lv (aL [])),(8,iv 0),(9,iv i)],[]⟩) (fun(i:Nat)=> 0) (0) ?_ (ax [] ?_ ?_ rfl rfl) ?_
 rotate_left
 ·exact sC
 ·exact sC
 rotate_left
 ·rfl
 ·rintro i rfl
  simp -implicitDefEqProofs only[go_sem,Z2]
  refine oC [] [0] (mF [] (by simp)) ?_
  refine oC [] [0] (we [] (by simp) (by simp)) ?_
  refine oC [] [0,1] (pZ (de []) (by show(0:Nat)≤1000;omega)) ?_
  refine al ?_
  refine sA ?_
  rfl
theorem l9(l:List Int)(yV:l.length≤12)(hb9:∀x∈l,-1000000≤x∧x≤1000000):C E.P 100 [lv (aL l)] [] (bB (.gL [lv (aL ((dD l).getD [])),bv (dD l).isSome]) []):=by
 cases l with
 | nil=>exact pF
 | cons x xs=>exact nU (x::xs) (by simp) yV hb9
theorem tV(c:Mod.dh)(d:Nat)(dec:List Int)(h:lL)(hz:h.fuel=0) :
 C E.P 56 [.ptr 0 0,lv (aL dec)] [some (.box [iv c.many,lv (bq c.list),iv h.fuel,.acc 1,bv h.out]),some (.acc 29 (bq h.log))] (bB (.gL [.aY,bv false]) [some (.box [iv c.many,lv (bq c.list),iv (dK c d dec h).fuel,.acc 2,bv (dK c d dec h).out]),some .dead,some (.acc 29 (bq (dK c d dec h).log))]):=by
 rw[xg hz]
 have k0:=eq_true hz
 refine gS (nt:=122) (rs:=[.tmp 4,.tmp 5]) hm Tryz.func56 fun hl he cx=>?_
 refine uH ?_
 refine bu [some 0,some 1,some 1] ?_ rfl rfl
 exact sC
theorem Cv(n:Nat)(c:Mod.dh)(hu:Un n c):∀(d:Nat)(dec:List Int)(h:lL),uo n dec→h.out=false→0≤h.fuel→h.fuel≤d→(h.log.length:Int)+h.fuel≤130 →
 C E.P 56 [.ptr 0 0,lv (aL dec)] [some (.box [iv c.many,lv (bq c.list),iv h.fuel,.acc 1,bv h.out]),some (.acc 29 (bq h.log))] (bB (.gL [.aY,bv false]) [some (.box [iv c.many,lv (bq c.list),iv (dK c d dec h).fuel,.acc 2,bv (dK c d dec h).out]),some .dead,some (.acc 29 (bq (dK c d dec h).log))]):=by
 obtain⟨m,hcm⟩:∃m:Nat,c.many=m:=⟨c.many.toNat,by have:=hu.many;omega⟩
 have hmt:c.many.toNat=m:=by omega
 have hm60:m≤60:=by have:=hu.many;omega
 have h6:=hu.On
 intro d
 induction d with
 | zero=>exact fun dec h hd ho h0 h1 h2=>tV c 0 dec h (by omega)
 | succ d ih=>
   intro dec h hd ho h0 h1 h2
   rcases aa (h.fuel=0) with hz|hz
   ·exact tV c (d+1) dec h hz
   have hdl:=hd.len
   have cu:=zP c.list dec hd.1 hu.clause
   obtain⟨fu,lg,ou⟩:=h
   simp only at ho h0 h1 h2 hz
   subst ho
   cases hb:(eF c.list dec).2
   ·obtain⟨f,f1,f2,f3,d1,d2⟩:=hd.snoc hu hb
    rw[xd hz hb f1]
    rw[hb] at cu
    rw[hcm] at ih⊢
    rw[hmt] at f1
    generalize (eF c.list dec).1=put at cu f1
    have cx:=BZ
    refine CC (nt:=122) (rs:=[.tmp 4,.tmp 5]) hm Tryz.func56 rfl rfl rfl rfl rfl (fun hl he=>?_)
    simp -implicitDefEqProofs only[go_sem] at hl⊢
    simp -implicitDefEqProofs only[go_sem,hz]
    refine sQ ?_
    refine aC [] cu ?_
    refine sQ ?_
    refine lP hm (fun(v:Nat) (q:Int) (rs:List (List D))=> v≤m∧rs.length=m∧gM put v q=f) (fun(v:Nat) (q:Int) (rs:List (List D))=> ⟨eE 122 .any [(0,.ptr 0 0),(1,lv (aL dec)),(6,lv (aL put)),(8,iv q),(9,.acc 2),(10,iv v)],[some (.box [iv m,lv (bq c.list),iv (fu-1),.acc 1,bv false]),some (.acc 29 (bq lg)),some (.acc 4 rs)]⟩) (fun(v:Nat) (q:Int) (rs:List (List D))=> v) (m) (0) (List.replicate m [D.val (.bool false)]) ?_ (ax [some 0,some 1,some 2] ?_ ?_ rfl rfl) ?_
    rotate_left
    ·exact sC
    ·exact sC
    rotate_left
    ·exact⟨Nat.le_refl _,by simp,f1⟩
    ·rintro v q rs ⟨g1,g2,g4⟩
     rcases aa ((0:Int)<(v:Int)) with h3|h3
     ·obtain⟨u,hu1⟩:∃u:Nat,v=u+1:=⟨v-1,by omega⟩
      have hv1:(v:Int)-1=(u:Int):=by omega
      have hur:u<rs.length:=by omega
      have g5:gM put u (if put.contains (v:Int) then q else if put.contains (-(v:Int)) then q else(v:Int))=f:=by
       rw[←g4]
       subst hu1
       rw[gM]
       rfl
      refine uC ?_
      refine aC [] (eY put (v:Int)) ?_
      cases k1:put.contains (v:Int)
      ·rw[k1] at g5
       simp only[ak,if_false] at g5
       refine sA ?_
       refine sQ ?_
       refine aC [] (eY put (-(v:Int))) ?_
       cases k2:put.contains (-(v:Int))
       ·rw[k2] at g5
        simp only[ak,if_false] at g5
        simp -implicitDefEqProofs only[go_sem,hv1]
        refine sQ ?_
        refine⟨u,(v:Int),rs,?_,sL,ax [some 0,some 1,some 2] ?_ ?_ rfl rfl⟩
        rotate_left
        ·exact sC
        ·exact sC
        exact⟨by omega,g2,g5⟩
       ·rw[k2] at g5
        simp only[if_true] at g5
        simp -implicitDefEqProofs only[go_sem,hv1]
        refine sQ ?_
        refine⟨u,q,rs,?_,sL,ax [some 0,some 1,some 2] ?_ ?_ rfl rfl⟩
        rotate_left
        ·exact sC
        ·exact sC
        exact⟨by omega,g2,g5⟩
      ·rw[k1] at g5
       simp only[if_true] at g5
       simp -implicitDefEqProofs only[go_sem,hv1,hur]
       refine sQ ?_
       refine⟨u,q,rs.set u (o0 (row rs u) 0 [D.val (.bool true)]),?_,sL,ax [some 0,some 1,some 2] ?_ ?_ rfl rfl⟩
       rotate_left
       ·exact sC
       ·exact sC
       exact⟨by omega,by simpa using g2,g5⟩
     ·have hv0:v=0:=by omega
      rw[hv0,gM] at g4
      subst g4
      have hf0:¬ (f:Int)=0:=by omega
      simp -implicitDefEqProofs only[go_sem,h3,hf0]
      refine sQ ?_
      refine o5 hm (fun(i:Nat) (g:lL)=> i≤2∧g.out=false∧0≤g.fuel∧g.fuel≤d∧(g.log.length:Int)+g.fuel≤129∧rU c d dec f 0 ⟨fu-1,lg,false⟩=rU c d dec f i g) (fun(i:Nat) (g:lL)=> ⟨eE 122 .any [(0,.ptr 0 0),(1,lv (aL dec)),(80,lv (aL [-(f:Int),(f:Int)])),(81,iv 2),(82,iv i)],[some (.box [iv m,lv (bq c.list),iv g.fuel,.acc 2,bv false]),some .dead,some (.acc 29 (bq g.log))]⟩) (fun(i:Nat) (g:lL)=> 2-i) (0) (⟨fu-1,lg,false⟩) ?_ (ax [some 0,some 1,some 1] ?_ ?_ rfl rfl) ?_
      rotate_left
      ·refine sA ?_
       all_goals(exact⟨rfl,rfl⟩)
      ·simp -implicitDefEqProofs only[go_sem]
      rotate_left
      ·exact⟨by omega,rfl,by simp only;omega,by simp only;omega,by simp only;omega,rfl⟩
      ·rintro i g ⟨q1,q2,q3,q4,q5,q6⟩
       rw[q6]
       have e1:row (aL [-(f:Int),(f:Int)]) 1=[D.val (Value.int .i64 f)]:=rfl
       have e2:(1:Nat)<1+1:=by omega
       have hcase:i=0∨i=1∨i=2:=by omega
       rcases hcase with rfl|rfl|rfl
       ·have cr:=ih (dec++[(-(f:Int))]) g d1 q2 q3 q4 (by omega)
        have hbb:=z8 c d (dec++[(-(f:Int))]) g q3
        have er:aL (dec++[(-(f:Int))])=aL dec++[[D.val (Value.int .i64 ((-(f:Int))))]]:=(fX dec [(-(f:Int))]).symm
        rw[Ep]
        rw[er,q2] at cr
        generalize dK c d (dec++[(-(f:Int))]) g=k at cr hbb⊢
        simp -implicitDefEqProofs only[go_sem,Z2]
        refine oC [] [3] (mF dec (by omega)) ?_
        refine sQ ?_
        refine BI (zi 92 4 rfl) ?_
        simp -implicitDefEqProofs only[go_sem,List.getElem_cons_zero]
        refine b7 [] [0,2,5] cr ?_ ?_
        ·refine sA ?_
         first|rfl|((repeat' apply aH)<;>rfl)
        refine sA ?_
        cases ho:k.out
        ·refine sA ?_
         refine sQ ?_
         refine⟨1,k,?_,sL,ax [some 0,some 1,some 5] ?_ ?_ rfl rfl⟩
         rotate_left
         ·refine sA ?_
          all_goals(simp[*];done)
         ·exact sC
         exact⟨by omega,ho,hbb.1,by omega,by omega,rfl⟩
        ·simp -implicitDefEqProofs only[go_sem,ho]
         refine bu [some 0,some 1,some 5] ?_ rfl rfl
         exact sC
       ·have cr:=ih (dec++[(f:Int)]) g d2 q2 q3 q4 (by omega)
        have hbb:=z8 c d (dec++[(f:Int)]) g q3
        have er:aL (dec++[(f:Int)])=aL dec++[[D.val (Value.int .i64 ((f:Int)))]]:=(fX dec [(f:Int)]).symm
        rw[FO]
        rw[er,q2] at cr
        generalize dK c d (dec++[(f:Int)]) g=k at cr hbb⊢
        simp -implicitDefEqProofs only[go_sem,Z2,Z3,Z4,e1,e2]
        refine oC [] [3] (mF dec (by omega)) ?_
        refine sQ ?_
        refine BI (zi 92 4 rfl) ?_
        refine sA ?_
        refine b7 [] [0,2,5] cr ?_ ?_
        ·refine sA ?_
         first|rfl|((repeat' apply aH)<;>rfl)
        simp -implicitDefEqProofs only[go_sem]
        cases ho:k.out
        ·refine sA ?_
         refine sQ ?_
         refine⟨2,k,?_,sL,ax [some 0,some 1,some 5] ?_ ?_ rfl rfl⟩
         rotate_left
         ·refine sA ?_
          all_goals(simp[*];done)
         ·exact sC
         exact⟨by omega,ho,hbb.1,by omega,by omega,rfl⟩
        ·simp -implicitDefEqProofs only[go_sem,ho]
         refine bu [some 0,some 1,some 5] ?_ rfl rfl
         exact sC
       ·rw[Fu]
        simp -implicitDefEqProofs only[go_sem,Z2]
        refine aC [] (lJ dec (by omega) (fun x hx=>by have:=hd.1.2 x hx;omega)) ?_
        refine aC [] (l9 (dec.map fun x=>-x) (by rw[bj];omega) (fun x hx=>by obtain⟨y,hy,rfl⟩:=bO.1 hx;have:=hd.1.2 y hy;omega)) ?_
        refine sQ ?_
        refine bu [some 0,some 1,some 3] ?_ rfl rfl
        refine sA ?_
        exact⟨⟨rfl,(by rw[mf,q2])⟩,oK g.log [((dD (dec.map fun x=>-x)).getD [])]⟩
   ·rw[zD hz hb]
    rw[hb] at cu
    refine gS (nt:=122) (rs:=[.tmp 4,.tmp 5]) hm Tryz.func56 fun hl he cx=>?_
    simp -implicitDefEqProofs only[go_sem,hz]
    refine sQ ?_
    refine aC [] cu ?_
    refine aC [] (lJ dec (by omega) (fun x hx=>by have:=hd.1.2 x hx;omega)) ?_
    refine aC [] (l9 (dec.map fun x=>-x) (by rw[bj];omega) (fun x hx=>by obtain⟨y,hy,rfl⟩:=bO.1 hx;have:=hd.1.2 y hy;omega)) ?_
    refine sQ ?_
    refine bu [some 0,some 1,some 2] ?_ rfl rfl
    refine sA ?_
    exact⟨⟨rfl,rfl⟩,oK lg [((dD (dec.map fun x=>-x)).getD [])]⟩
theorem r3(n:Nat)(c:Mod.dh)(hu:Un n c):∃(ok:Bool)(log:List (List Int)),(ok=true→log≠[])∧C E.P 25 [av (Ga c),iv 130] [] (bB (.gL [.aY,lv (bq log),bv ok]) []):=by
 have hb:=z8 c 130 [] ⟨130,[],false⟩ (by simp only;omega)
 have hd:uo n []:=⟨⟨List.Pairwise.nil,by simp⟩,by simp⟩
 have cc:=Cv n c hu 130 [] ⟨130,[],false⟩ hd rfl (by simp only;omega) (by simp only;omega) (by simp)
 have c1:=AP c
 rw[hu.ok] at c1
 have c2:=eR 130 0 130
 have e2:within 130 0 130=true:=rfl
 rw[e2] at c2
 have hcl:=hu.len
 generalize dK c 130 [] ⟨130,[],false⟩=r at hb cc
 simp only at cc hb
 obtain⟨b1,b2,b3,b4⟩:=hb
 have b5:r.log.length≤130:=by simp at b3;omega
 cases hout:r.out
 ·rw[hout] at cc
  rcases aa ((400:Int)<(r.log.length:Int)+(c.list.length:Int)) with h4|h4
  ·refine⟨false,[],by simp,?_⟩
   have cx:LB=1099511627776:=rfl
   refine zp (nt:=51) (rs:=[.tmp 4,.tmp 5,.tmp 6]) Tryz.func25 rfl rfl rfl rfl rfl (fun hl he=>?_)
   simp -implicitDefEqProofs only[go_sem] at hl he⊢
   refine ic (kT hm ?_)
   simp -implicitDefEqProofs only[go_sem,e9,eO]
   refine ic (kT hm ?_)
   refine sA ?_
   refine aC [] c1 ?_
   refine e7 [] c2 ?_ ?_<;>simp -implicitDefEqProofs only[go_sem,e9,eO]
   refine ic (kT hm ?_)
   simp -implicitDefEqProofs only[go_sem,e9,eO]
   refine Ec (ax (ch':=[(2,.ptr 0 0),(4,.aY),(5,.aY),(6,bv false),(7,.ptr 1 0)]) (st':=[some (.box [iv c.many,lv (bq c.list)]),some (.box [iv c.many,lv (bq c.list),iv 130,.acc 2,bv false]),some (.acc 29 (bq []))]) [some 0,some 1,none] ?_ ?_ rfl rfl) ?_
   ·exact sC
   ·simp -implicitDefEqProofs only[go_sem]
    try exact⟨rfl,rfl⟩
   refine ic (kT hm ?_)
   refine sA ?_
   refine b7 [] [1,2,3] cc ?_ ?_
   ·refine sA ?_
    first|rfl|((repeat' apply aH)<;>rfl)
   simp -implicitDefEqProofs only[go_sem,e9,eO]
   refine ic (kT hm ?_)
   simp -implicitDefEqProofs only[go_sem,h4,e9,vz]
   refine sQ ?_
   refine hY ?_
   refine al ?_
   exact sC
  ·refine⟨true,r.log,fun _=>b4 hout,?_⟩
   have cx:LB=1099511627776:=rfl
   refine zp (nt:=51) (rs:=[.tmp 4,.tmp 5,.tmp 6]) Tryz.func25 rfl rfl rfl rfl rfl (fun hl he=>?_)
   simp -implicitDefEqProofs only[go_sem] at hl he⊢
   refine ic (kT hm ?_)
   simp -implicitDefEqProofs only[go_sem,e9,eO]
   refine ic (kT hm ?_)
   refine sA ?_
   refine aC [] c1 ?_
   refine e7 [] c2 ?_ ?_<;>simp -implicitDefEqProofs only[go_sem,e9,eO]
   refine ic (kT hm ?_)
   simp -implicitDefEqProofs only[go_sem,e9,eO]
   refine Ec (ax (ch':=[(2,.ptr 0 0),(4,.aY),(5,.aY),(6,bv false),(7,.ptr 1 0)]) (st':=[some (.box [iv c.many,lv (bq c.list)]),some (.box [iv c.many,lv (bq c.list),iv 130,.acc 2,bv false]),some (.acc 29 (bq []))]) [some 0,some 1,none] ?_ ?_ rfl rfl) ?_
   ·exact sC
   ·simp -implicitDefEqProofs only[go_sem]
    try exact⟨rfl,rfl⟩
   refine ic (kT hm ?_)
   refine sA ?_
   refine b7 [] [1,2,3] cc ?_ ?_
   ·refine sA ?_
    first|rfl|((repeat' apply aH)<;>rfl)
   simp -implicitDefEqProofs only[go_sem,e9,eO]
   refine ic (kT hm ?_)
   simp -implicitDefEqProofs only[go_sem,h4,e9,eO]
   refine sQ ?_
   refine kT hm ?_
   simp -implicitDefEqProofs only[go_sem,e9]
   refine iK ?_
   refine⟨_,y0 5 3 29 (bq r.log) rfl rfl,?_⟩
   refine al ?_
   exact sC
 ·refine⟨false,[],by simp,?_⟩
  rw[hout] at cc
  have cx:LB=1099511627776:=rfl
  refine zp (nt:=51) (rs:=[.tmp 4,.tmp 5,.tmp 6]) Tryz.func25 rfl rfl rfl rfl rfl (fun hl he=>?_)
  simp -implicitDefEqProofs only[go_sem] at hl he⊢
  refine ic (kT hm ?_)
  simp -implicitDefEqProofs only[go_sem,e9,eO]
  refine ic (kT hm ?_)
  refine sA ?_
  refine aC [] c1 ?_
  refine e7 [] c2 ?_ ?_<;>simp -implicitDefEqProofs only[go_sem,e9,eO]
  refine ic (kT hm ?_)
  simp -implicitDefEqProofs only[go_sem,e9,eO]
  refine Ec (ax (ch':=[(2,.ptr 0 0),(4,.aY),(5,.aY),(6,bv false),(7,.ptr 1 0)]) (st':=[some (.box [iv c.many,lv (bq c.list)]),some (.box [iv c.many,lv (bq c.list),iv 130,.acc 2,bv false]),some (.acc 29 (bq []))]) [some 0,some 1,none] ?_ ?_ rfl rfl) ?_
  ·exact sC
  ·simp -implicitDefEqProofs only[go_sem]
   try exact⟨rfl,rfl⟩
  refine ic (kT hm ?_)
  refine sA ?_
  refine b7 [] [1,2,3] cc ?_ ?_
  ·refine sA ?_
   first|rfl|((repeat' apply aH)<;>rfl)
  simp -implicitDefEqProofs only[go_sem,e9,eO]
  refine ic (kT hm ?_)
  simp -implicitDefEqProofs only[go_sem,e9,vz]
  refine iK ?_
  refine hY ?_
  refine al ?_
  exact sC
theorem qh(s:eD)(list:List Mod.Form)(hno:∀w:Atom→Bool,list.all (holds w)=false):∃(p:Mod.BV)(code:Int),code≠0∧C E.P 8 [av (c8 s),lv (a7 list)] [] (bB (.gL [av (H8 ⟨[]⟩),av (Ih p),iv code]) []):=by
 have c1:=wc s list
 cases kG:iG s list
 ·rw[kG] at c1
  refine⟨⟨[],[]⟩,3,by omega,?_⟩
  refine gS (nt:=107) (rs:=[.cell 4 42,.cell 5 46,.tmp 6]) hm Tryz.func8 fun hl he cx=>?_
  refine aC [] c1 ?_
  refine al ?_
  simp -implicitDefEqProofs only[go_sem]
  all_goals((repeat' apply aH)<;>rfl)
 ·rw[kG] at c1
  obtain⟨atoms,ha⟩:∃atoms,bZ list=some atoms:=by
   cases h:bZ list with
   | none=>rw[iG,h] at kG;cases kG
   | some a=>exact⟨a,rfl⟩
  have c2:=jw list
  rw[ha] at c2
  simp only[Option.getD_some,Option.isSome_some] at c2
  have c3:=uW list atoms ha [] (by simp) (by simp)
  have e3:nM (gW list) []=gW list:=rfl
  rw[e3] at c3
  obtain⟨ok,log,hlog,ch⟩:=r3 atoms.length (gW list) (GN ha hno)
  generalize gW list=cn at c3 ch
  cases ok
  ·refine⟨⟨[],[]⟩,2,by omega,?_⟩
   refine gS (nt:=107) (rs:=[.cell 4 42,.cell 5 46,.tmp 6]) hm Tryz.func8 fun hl he cx=>?_
   refine aC [] c1 ?_
   refine aC [] c2 ?_
   refine aG hm (fun(z:Nat)=> z=0) (fun(z:Nat)=> ⟨eE 107 .any [(1,lv (a7 list)),(2,.ptr 0 0),(4,.ptr 1 0),(5,.ptr 2 0),(7,lv (aK atoms)),(9,.aY)],[some (.box (eZ (c8 s))),some (.box [.aY]),some (.box [.aY,.aY])]⟩) (fun(z:Nat)=> 0) (0) ?_ (ax [some 0,some 1,some 2] ?_ ?_ rfl rfl) ?_
   rotate_left
   ·exact sC
   ·exact sC
   rotate_left
   ·rfl
   rintro z rfl
   refine sA ?_
   refine aC [] c3 ?_
   refine aC [] ch ?_
   refine al ?_
   simp -implicitDefEqProofs only[go_sem]
   all_goals((repeat' apply aH)<;>rfl)
  ·have hpos:(0:Int)<(log.length:Int):=by
    have:=List.length_pos_iff.2 (hlog rfl)
    omega
   refine⟨⟨[],log⟩,1,by omega,?_⟩
   refine gS (nt:=107) (rs:=[.cell 4 42,.cell 5 46,.tmp 6]) hm Tryz.func8 fun hl he cx=>?_
   refine aC [] c1 ?_
   refine aC [] c2 ?_
   refine aG hm (fun(z:Nat)=> z=0) (fun(z:Nat)=> ⟨eE 107 .any [(1,lv (a7 list)),(2,.ptr 0 0),(4,.ptr 1 0),(5,.ptr 2 0),(7,lv (aK atoms)),(9,.aY)],[some (.box (eZ (c8 s))),some (.box [.aY]),some (.box [.aY,.aY])]⟩) (fun(z:Nat)=> 0) (0) ?_ (ax [some 0,some 1,some 2] ?_ ?_ rfl rfl) ?_
   rotate_left
   ·exact sC
   ·exact sC
   rotate_left
   ·rfl
   rintro z rfl
   refine sA ?_
   refine aC [] c3 ?_
   refine aC [] ch ?_
   simp -implicitDefEqProofs only[go_sem,hpos]
   refine al ?_
   simp -implicitDefEqProofs only[go_sem]
   all_goals((repeat' apply aH)<;>rfl)
theorem sa(b:List Int)(hb:∀x∈b,0≤x∧x≤255)(yV:b.length≤2000000):C E.P 5 [lv (Gx b)] [] (bB (.gL [av (c8 (pK (b.take 2000) 0).1),av (df (pK (b.take 2000) 0).2.1)]) []):=by
 have hO:=My hb
 obtain⟨c,hc⟩:∃c,b.take 2000=c:=⟨_,rfl⟩
 have c1:=xr b hb yV
 rw[hc] at hO c1⊢
 have c2:=yf c hO 0 (by omega) (by omega)
 refine gS (nt:=9) (rs:=[.cell 2 25,.cell 3 36]) hm Tryz.func5 fun hl he cx=>?_
 refine oC [] [2] c1 ?_
 refine oC [] [2] c2 ?_
 refine al ?_
 simp -implicitDefEqProofs only[go_sem]
 all_goals((repeat' apply aH)<;>rfl)
end Go.Proofs.YtgpjhjalfakpoaaGreat
