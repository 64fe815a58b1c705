/-
  A formula told to a stack: the walks. A step towards the exact laws.
-/
import Derived.Test.YtnhdminpjihbnaaGreatKAt
set_option linter.unusedVariables false
set_option linter.unusedSimpArgs false
open Int renaming reduceEq→Z1,reduceLT→Z2,reduceLE→Z3,reduceToNat→Z4
open Classical renaming em→aa
open List renaming getElem?_eq_getElem→ae,getElem_mem→ah,map_cons→aJ,map_nil→cL,length_set→eH,set_cons_zero→gv,set_cons_succ→kh
namespace Go.Proofs.YtnhdminpjihbnaaGreat
open Go.Eng Go.Mod
set_option maxRecDepth 100000
set_option maxHeartbeats 800000
theorem yb(x:List D):lift [x]=[x.map T.eK]:=rfl
theorem Gy:∀(x:List D),dJ (x.map T.eK)=some x:=xG
theorem TB(l:List (List Mod.aU))(f:Mod.aU)(h:0<l.length):bA ((lT l).set (l.length-1) [.own 39 (Fl (l[l.length-1]'oM)++[(eE f).map T.eK])])=some (fM (cM l f)):=by
 have key:∀(l:List (List Mod.aU))(i:Nat)(hi:i<l.length)(x:List T)(y:List Mod.aU),dJ x=some [.eP (bc y)]→bA ((lT l).set i x)=some (fM (l.set i y)):=by
  intro l;induction l with
  | nil=>intro i hi;simp at hi
  | cons a l ih=>
   intro i hi x y hx;cases i with
   | zero=>have:=LJ l;simp only[lT,aJ,gv] at this⊢;simp[bA,hx,this,fM]
   | succ i=>have:=ih i (by simpa using hi) x y hx;simp only[lT,aJ,kh] at this⊢;simp[bA,dJ,T.Ah,cLT,xg,this,fM]
 rw[zx l f h];refine key l _ oM _ _ ?_;have h1:=zd (xg (l[l.length-1]'oM)) (show bA [(eE f).map T.eK]=some [eE f] by simp[bA,Gy]);simp only[dJ,T.Ah,h1];rw[←lq,lC,nV]
theorem Hh(s:e7)(f:Mod.aU)(hb9:di s+iw f≤8000000):C E.P 5 [av (ic s),av (eE f)] [] (gR (.ko [.agg [.aW 0,.aW 1],bv (bZ s f).2]) [some (.e9 116 (rM (bZ s f).1.sig.cq)),some (.e9 37 (lT (bZ s f).1.aA))]):=by
 have hfl:s.aA.flatten.length≤8000000:=by have:=gM s.aA;rw[di] at hb9;omega
 have cV:LB=1099511627776:=rfl;refine rF (nt:=50) (rs:=[.cell 4 28,.tmp 5]) Tryz.func5 rfl rfl rfl rfl rfl (fun hl he=>?_);simp -implicitDefEqProofs only[go_sem] at hl he⊢;refine dD (fh hm ?_);simp -implicitDefEqProofs only[go_sem,bO,ck];refine dD (fh hm ?_);refine sA ?_;refine aC [] (o4 s hfl) ?_;cases dL:fc s;have e:bZ s f=(⟨⟨[]⟩,[]⟩,false):=by simp[bZ,dL]
 simp -implicitDefEqProofs only[go_sem,bO,ma];refine dw ?_;refine Et [none,none] ?_;rw[e];exact⟨rfl,rfl,rfl⟩;have fj:=tf dL;simp -implicitDefEqProofs only[go_sem,bO,ck];refine dD (fh hm ?_);refine sA ?_;refine ff [] [3,4] (lR s oM oM) ?_ ?_<;>simp -implicitDefEqProofs only[go_sem,bO,ck];refine dD (fh hm ?_);simp -implicitDefEqProofs only[go_sem,bO,ck];refine sQ ?_;refine dD (dD (Wl hm rfl rfl rfl rfl (by kernel_rfl) (by kernel_rfl) (by kernel_rfl) (by kernel_rfl) (by kernel_rfl) (by kernel_rfl) (by simp only[vg];omega) ?_));intro b;have hlv:s.aA[s.aA.length-1].length≤8000000:=by have h1:=nL s.aA[s.aA.length-1];have h2:=qt dU (ah (show s.aA.length-1<s.aA.length by omega));rw[di] at hb9;omega
 have hl2:s.aA.length-1<s.aA.length:=oM;have hct2:di ⟨s.sig,cM s.aA f⟩≤8000000:=by have:=wO s.aA f;rw[di] at hb9;simp only[di];omega
 have hfl2:(cM s.aA f).flatten.length≤8000000:=by have:=gM (cM s.aA f);simp only[di] at hct2;omega
 have hp:(Fl s.aA[s.aA.length-1]).length=s.aA[s.aA.length-1].length:=Q8 _;have hrz:∀r,oJ (Fl s.aA[s.aA.length-1]++[r]) s.aA[s.aA.length-1].length=r:=fun r=>ll hp;have hsz:∀r r',(Fl s.aA[s.aA.length-1]++[r]).set s.aA[s.aA.length-1].length r'=Fl s.aA[s.aA.length-1]++[r']:=fun r r'=>je hp;have hl3:s.aA.length-1<(lT s.aA).length:=by rw[WW];exact hl2
 have e2:((s.aA.length:Int)-1).toNat=s.aA.length-1:=oM;have qf:oJ (lT s.aA) (s.aA.length-1)=[.own 39 (Fl s.aA[s.aA.length-1])]:=ahw hl2;have hrs:∀r,oJ ((lT s.aA).set (s.aA.length-1) r) (s.aA.length-1)=r:=fun r=>Kc hl3;refine rj (wQ.wF (Gm 4 (s.aA.length-1) _ rfl hl3 qf)) ?_;refine sA ?_;cases b
 ·refine fh hm ?_;simp -implicitDefEqProofs only[go_sem,bO,ck,e2,hrs];refine sQ ?_;refine rj (wQ.wF (nc 4 (s.aA.length-1) _ rfl (by rw[eH];exact hl3) (hrs _))) ?_;simp -implicitDefEqProofs only[go_sem,yb];have hfr:=TB s.aA f oM;simp only[eE,aJ,cL] at hfr;generalize (lT s.aA).set (s.aA.length-1) _=L at hfr⊢;refine dD (fh hm ?_);refine sA ?_;refine ox [] [3,4] (o4 ⟨s.sig,cM s.aA f⟩ hfl2) rfl ?_ ?_ ?_;refine sA ?_;exact qn.cons (Vw.agg (qn.cons (Vw.e9 rfl rfl (qa _)) (qn.cons (Vw.e9 rfl rfl hfr) .nil))) .nil;all_goals simp -implicitDefEqProofs only[go_sem]
  cases hok2:fc ⟨s.sig,cM s.aA f⟩;have e:bZ s f=(s,false):=(by rw[bZ,if_pos dL,hok2];rfl);refine sA ?_;refine ff [] [9,10] (lR s oM oM) ?_ ?_<;>simp -implicitDefEqProofs only[go_sem,bO,ma];refine dw ?_;refine Et [some 9,some 10] ?_;rw[e];exact⟨rfl,rfl,rfl⟩;have e:bZ s f=(⟨s.sig,cM s.aA f⟩,true):=(by rw[bZ,if_pos dL,if_pos hok2]);simp -implicitDefEqProofs only[go_sem,bO,ck];refine fh hm ?_;refine sA ?_;refine Co [] [3,4] [9,10] (lR ⟨s.sig,cM s.aA f⟩ hct2 (by show(cM s.aA f).length≤_;rw[qT];omega)) rfl ?_ ?_ ?_;refine sA ?_;exact qn.cons (Vw.agg (qn.cons (Vw.e9 rfl rfl (qa _)) (qn.cons (Vw.e9 rfl rfl hfr) .nil))) .nil;all_goals simp -implicitDefEqProofs only[go_sem,bO]
  refine dw ?_;refine Et [some 9,some 10] ?_;rw[e];exact⟨rfl,rfl,rfl⟩
 refine fh hm ?_;simp -implicitDefEqProofs only[go_sem,bO,ck,e2,hrs,yb,hrz,hsz];refine sQ ?_;refine rj (wQ.wF (nc 4 (s.aA.length-1) _ rfl (by rw[eH];exact hl3) (hrs _))) ?_;refine sA ?_;have hfr:=TB s.aA f oM;simp only[eE,aJ,cL] at hfr;generalize (lT s.aA).set (s.aA.length-1) _=L at hfr⊢;refine dD (fh hm ?_);refine sA ?_;refine ox [] [3,4] (o4 ⟨s.sig,cM s.aA f⟩ hfl2) rfl ?_ ?_ ?_;refine sA ?_;exact qn.cons (Vw.agg (qn.cons (Vw.e9 rfl rfl (qa _)) (qn.cons (Vw.e9 rfl rfl hfr) .nil))) .nil;all_goals simp -implicitDefEqProofs only[go_sem]
 cases hok2:fc ⟨s.sig,cM s.aA f⟩;have e:bZ s f=(s,false):=by rw[bZ,if_pos dL,hok2];rfl
 refine sA ?_;refine ff [] [9,10] (lR s oM oM) ?_ ?_<;>simp -implicitDefEqProofs only[go_sem,bO,ma];refine dw ?_;refine Et [some 9,some 10] ?_;rw[e];exact⟨rfl,rfl,rfl⟩;have e:bZ s f=(⟨s.sig,cM s.aA f⟩,true):=by rw[bZ,if_pos dL,if_pos hok2]
 simp -implicitDefEqProofs only[go_sem,bO,ck];refine fh hm ?_;refine sA ?_;refine Co [] [3,4] [9,10] (lR ⟨s.sig,cM s.aA f⟩ hct2 (by show(cM s.aA f).length≤_;rw[qT];omega)) rfl ?_ ?_ ?_;refine sA ?_;exact qn.cons (Vw.agg (qn.cons (Vw.e9 rfl rfl (qa _)) (qn.cons (Vw.e9 rfl rfl hfr) .nil))) .nil;all_goals simp -implicitDefEqProofs only[go_sem,bO]
 refine dw ?_;refine Et [some 9,some 10] ?_;rw[e];exact⟨rfl,rfl,rfl⟩
def cDT(fs:List Mod.aU):List T:=[.own 39 (lift (bc fs))]
def dT(l:List (List Mod.aU)):List (List T):=l.map cDT
theorem yY(l:List (List Mod.aU)):(dT l).length=l.length:=by simp[dT]
theorem abx{l:List (List Mod.aU)}{i:Nat}(h:i<l.length):oJ (dT l) i=cDT l[i]:=by simp[dT,oJ,List.getD,ae h]
theorem Yo{l:List (List Mod.aU)}{i:Nat}(h:i<l.length):dT (l.take i)++[cDT l[i]]=dT (l.take (i+1)):=by
 have e:l.take (i+1)=l.take i++[l[i]]:=by rw[List.take_add_one,ae h];rfl
 rw[e];simp only[dT,List.map_append,aJ,cL]
theorem DT:∀(l:List (List Mod.aU)),bA (dT l)=some (fM l)
 | []=>rfl
 | s::l=>by have:=DT l;simp only[dT,aJ] at this⊢;simp[bA,dJ,T.Ah,cDT,jy,this,fM]
theorem agQ(l:List (List Mod.aU)):(bA (dT l)).isSome=true:=by rw[DT];rfl
theorem ah4(m:List Nat)(l:List (List Mod.aU)):jU m (dT l)=dT l:=pj _ (by rw[DT];rfl)
attribute [go_sem] yY DT ah4 pO
theorem pg(s:e7)(hb9:di s≤8000000)(rP:s.aA.length≤8000000):C E.P 18 [av (ic s)] [] (gR (.agg [lv (ij s.sig.cq),.aW 0]) [some (.e9 37 (dT s.aA))]):=by
 rw[di] at hb9;refine gS 29 [.cell 2 28] hm Tryz.func18 fun hl he cV=>?_;refine aC [] (xz s.sig oM) ?_;refine jf hm s.aA.length (fun i=>⟨fk 29 .any [(1,.bK 0 0),(2,.bK 1 0),(3,.bK 2 0),(4,iv i)],[some (.box (fy (ic s))),some (.box [.bE,.bE]),some (.box [lv (ij s.sig.cq),.aW 3]),some (.e9 37 (dT (s.aA.take i)))]⟩) (c9 [some 0,some 1,some 3,some 2]) ?_;rintro i hi;have hp:(dT (s.aA.take i)).length=i:=by rw[yY,List.length_take];omega
 rcases aa (i<s.aA.length) with h1|h1
 ·have hc9:=qt dU (ah h1);refine uA ?_;refine oC [] [4] (Ab s.aA[i] oM) ?_;refine bI ?_;refine⟨i+1,?_,?_,pQ 6 i _ rfl (by rw[List.length_append,hp];simp) (ll hp) ?_⟩;rotate_left;show _ < _;omega
  ·refine sA ?_;refine bW [some 0,some 1,some 2,some 6] ?_ ?_ rfl rfl;exact sC;refine sA ?_;all_goals(rw[je hp];exact⟨Yo h1,(congrArg (fun z=>(bA z).isSome) (Yo h1)).trans (agQ _)⟩)
  exact h1
 refine bS h1 ?_;refine Et [some 3] ?_;rw[List.take_of_length_le oM]
theorem OG(l:List (List Mod.aU))(f:Mod.aU)(h:0<l.length):bA ((dT l).set (l.length-1) [.own 39 (lift (bc (l[l.length-1]'oM))++[(eE f).map T.eK])])=some (fM (cM l f)):=by
 have key:∀(l:List (List Mod.aU))(i:Nat)(hi:i<l.length)(x:List T)(y:List Mod.aU),dJ x=some [.eP (bc y)]→bA ((dT l).set i x)=some (fM (l.set i y)):=by
  intro l;induction l with
  | nil=>intro i hi;simp at hi
  | cons a l ih=>
   intro i hi x y hx;cases i with
   | zero=>have:=DT l;simp only[dT,aJ,gv] at this⊢;simp[bA,hx,this,fM]
   | succ i=>have:=ih i (by simpa using hi) x y hx;simp only[dT,aJ,kh] at this⊢;simp[bA,dJ,T.Ah,cDT,jy,this,fM]
 rw[zx l f h];refine key l _ oM _ _ ?_;have h1:=zd (jy (bc (l[l.length-1]'oM))) (show bA [(eE f).map T.eK]=some [eE f] by simp[bA,Gy]);simp only[dJ,T.Ah,h1];rw[←lq,lC,nV]
theorem yn(s:e7)(f:Mod.aU)(hb9:di s+iw f≤8000000):CN 6 [av (ic s),av (eE f)] (.ko [av (ic (bZ s f).1),bv (bZ s f).2]):=by
 have hfl:s.aA.flatten.length≤8000000:=by have:=gM s.aA;rw[di] at hb9;omega
 have cV:LB=1099511627776:=rfl;refine rF (nt:=51) (rs:=[.cell 4 28,.tmp 5]) Tryz.func6 rfl rfl rfl rfl rfl (fun hl he=>?_);simp -implicitDefEqProofs only[go_sem] at hl he⊢;refine dD (fh hm ?_);simp -implicitDefEqProofs only[go_sem,bO,ck];refine dD (fh hm ?_);refine sA ?_;refine aC [] (nj s hfl) ?_;cases dL:fc s;have e:bZ s f=(⟨⟨[]⟩,[]⟩,false):=by simp[bZ,dL]
 simp -implicitDefEqProofs only[go_sem,bO,ma];refine dw ?_;refine bI ?_;rw[e];exact⟨⟨rfl,rfl⟩,rfl⟩;have fj:=tf dL;simp -implicitDefEqProofs only[go_sem,bO,ck];refine dD (fh hm ?_);refine sA ?_;refine ff [] [3] (pg s oM oM) ?_ ?_<;>simp -implicitDefEqProofs only[go_sem,bO,ck];refine dD (fh hm ?_);simp -implicitDefEqProofs only[go_sem,bO,ck];refine sQ ?_;refine dD (dD (Wl hm rfl rfl rfl rfl (by kernel_rfl) (by kernel_rfl) (by kernel_rfl) (by kernel_rfl) (by kernel_rfl) (by kernel_rfl) (by simp only[vg];omega) ?_));intro b;have hlv:s.aA[s.aA.length-1].length≤8000000:=by have h1:=nL s.aA[s.aA.length-1];have h2:=qt dU (ah (show s.aA.length-1<s.aA.length by omega));rw[di] at hb9;omega
 have hl2:s.aA.length-1<s.aA.length:=oM;have hct2:di ⟨s.sig,cM s.aA f⟩≤8000000:=by have:=wO s.aA f;rw[di] at hb9;simp only[di];omega
 have hfl2:(cM s.aA f).flatten.length≤8000000:=by have:=gM (cM s.aA f);simp only[di] at hct2;omega
 have hp:(lift (bc s.aA[s.aA.length-1])).length=s.aA[s.aA.length-1].length:=by rw[pO,eL]
 have hrz:∀r,oJ (lift (bc s.aA[s.aA.length-1])++[r]) s.aA[s.aA.length-1].length=r:=fun r=>ll hp;have hsz:∀r r',(lift (bc s.aA[s.aA.length-1])++[r]).set s.aA[s.aA.length-1].length r'=lift (bc s.aA[s.aA.length-1])++[r']:=fun r r'=>je hp;have hl3:s.aA.length-1<(dT s.aA).length:=by rw[yY];exact hl2
 have e2:((s.aA.length:Int)-1).toNat=s.aA.length-1:=oM;have qf:oJ (dT s.aA) (s.aA.length-1)=[.own 39 (lift (bc s.aA[s.aA.length-1]))]:=abx hl2;have hrs:∀r,oJ ((dT s.aA).set (s.aA.length-1) r) (s.aA.length-1)=r:=fun r=>Kc hl3;refine rj (wQ.wF (Gm 3 (s.aA.length-1) _ rfl hl3 qf)) ?_;refine sA ?_;cases b
 ·refine fh hm ?_;refine pV e2 hrs ?_;refine eh [] (wi f oM) ?_ ?_<;>simp -implicitDefEqProofs only[go_sem,bO,ck,e2,hrs];refine sQ ?_;refine rj (wQ.wF (nc 3 (s.aA.length-1) _ rfl (by rw[eH];exact hl3) (hrs _))) ?_;simp -implicitDefEqProofs only[go_sem,yb];have hfr:=OG s.aA f oM;simp only[eE,aJ,cL] at hfr;generalize (dT s.aA).set (s.aA.length-1) _=L at hfr⊢;refine dD (fh hm ?_);refine sA ?_;refine ox [] [3] (nj ⟨s.sig,cM s.aA f⟩ hfl2) rfl ?_ ?_ ?_;refine sA ?_;exact qn.cons (Vw.agg (qn.cons (Vw.same rfl) (qn.cons (Vw.e9 rfl rfl hfr) .nil))) .nil;all_goals simp -implicitDefEqProofs only[go_sem]
  cases hok2:fc ⟨s.sig,cM s.aA f⟩;have e:bZ s f=(s,false):=(by rw[bZ,if_pos dL,hok2];rfl);refine sA ?_;refine eh [] (lN s oM oM) ?_ ?_<;>simp -implicitDefEqProofs only[go_sem,bO,ma];refine dw ?_;refine An ?_;rw[e];exact⟨⟨rfl,rfl⟩,rfl⟩;have e:bZ s f=(⟨s.sig,cM s.aA f⟩,true):=(by rw[bZ,if_pos dL,if_pos hok2]);simp -implicitDefEqProofs only[go_sem,bO,ck];refine fh hm ?_;simp -implicitDefEqProofs only[go_sem,bO];refine dw ?_;refine An ?_;rw[e];exact⟨⟨rfl,_,hfr,rfl⟩,rfl⟩
 refine fh hm ?_;refine pV e2 hrs ?_;refine eh [] (wi f oM) ?_ ?_<;>simp -implicitDefEqProofs only[go_sem,bO,ck,e2,hrs,yb,hrz,hsz];refine sQ ?_;refine rj (wQ.wF (nc 3 (s.aA.length-1) _ rfl (by rw[eH];exact hl3) (hrs _))) ?_;refine sA ?_;have hfr:=OG s.aA f oM;simp only[eE,aJ,cL] at hfr;generalize (dT s.aA).set (s.aA.length-1) _=L at hfr⊢;refine dD (fh hm ?_);refine sA ?_;refine ox [] [3] (nj ⟨s.sig,cM s.aA f⟩ hfl2) rfl ?_ ?_ ?_;refine sA ?_;exact qn.cons (Vw.agg (qn.cons (Vw.same rfl) (qn.cons (Vw.e9 rfl rfl hfr) .nil))) .nil;all_goals simp -implicitDefEqProofs only[go_sem]
 cases hok2:fc ⟨s.sig,cM s.aA f⟩;have e:bZ s f=(s,false):=by rw[bZ,if_pos dL,hok2];rfl
 refine sA ?_;refine eh [] (lN s oM oM) ?_ ?_<;>simp -implicitDefEqProofs only[go_sem,bO,ma];refine dw ?_;refine An ?_;rw[e];exact⟨⟨rfl,rfl⟩,rfl⟩;have e:bZ s f=(⟨s.sig,cM s.aA f⟩,true):=by rw[bZ,if_pos dL,if_pos hok2]
 simp -implicitDefEqProofs only[go_sem,bO,ck];refine fh hm ?_;simp -implicitDefEqProofs only[go_sem,bO];refine dw ?_;refine An ?_;rw[e];exact⟨⟨rfl,_,hfr,rfl⟩,rfl⟩
end Go.Proofs.YtnhdminpjihbnaaGreat
namespace Go.Proofs.YtnhdminpjihbnaaGreat
open Go.Eng Go.Mod
set_option maxRecDepth 100000
def ab1(l:List Int):List T:=[.own 3 (rE l)]
def Je(l:List (List Int)):List (List T):=l.map ab1
mutual
def wyT:o8→List T
 | .mk pF n t ar=>[.eK (.val (.int .i64 pF)),.eK (.val (.int .i64 n)),.eK (.str t.name),.own 31 (rS t.ar),.own 97 (aeC ar)]
def aeC:List o8→List (List T)
 | []=>[]
 | t::ts=>wyT t::aeC ts
end
def akL(t:o8):List T:=[.eK (.val (.int .i64 t.pF)),.eK (.val (.int .i64 t.n)),.eK (.str t.t.name),.own 31 (rS t.t.ar),.own 97 (aeC t.ar)]
mutual
def csT:fL→List T
 | .mk kind n w is a b ar=>[.eK (.val (.int .i64 kind)),.eK (.val (.int .i64 n)),.eK (.val (.int .i64 w.pF)),.eK (.val (.int .i64 w.n)),.eK (.str w.t.name),.own 31 (rS w.t.ar),.own 97 (aeC w.ar),.own 3 (rE is),.eK (.str a.name),.own 31 (rS a.ar),.eK (.str b.name),.own 31 (rS b.ar),.own 100 (aiy ar)]
def aiy:List fL→List (List T)
 | []=>[]
 | t::ts=>csT t::aiy ts
end
def akj(t:fL):List T:=[.eK (.val (.int .i64 t.kind)),.eK (.val (.int .i64 t.n)),.eK (.val (.int .i64 t.xU.pF)),.eK (.val (.int .i64 t.xU.n)),.eK (.str t.xU.t.name),.own 31 (rS t.xU.t.ar),.own 97 (aeC t.xU.ar),.own 3 (rE t.bt),.eK (.str t.A.name),.own 31 (rS t.A.ar),.eK (.str t.B.name),.own 31 (rS t.B.ar),.own 100 (aiy t.ar)]
def aki(l:Mod.mh):List T:=.own 3 (rE l.marks)::akj l.case
def lmT(l:List Mod.mh):List (List T):=l.map aki
theorem Ck:∀(l:List (List Int)),bA (Je l)=some (dS l)
 | []=>rfl
 | s::l=>by have:=Ck l;simp only[Je,aJ] at this⊢;simp[bA,dJ,T.Ah,ab1,yv,this,dS]
theorem abf:∀(l:List (List Int)),Ad (Je l)=true
 | []=>rfl
 | s::l=>by have:=abf l;simp only[Je,aJ] at this⊢;simp[Ad,sdT,T.sd,ab1,Gt,this]
theorem agw(m:List Nat)(l:List (List Int)):jU m (Je l)=Je l:=pj _ (by rw[Ck];rfl)
theorem aib(n:Nat)(l:List (List Int)):AD n (Je l)=true:=Lr _ (by rw[Ck];rfl)
attribute [go_sem] Ck abf agw aib
theorem Rm(l:List (List Int)):Je l=l.map ab1:=rfl
theorem YO(l:List (List Int)):(Je l).length=l.length:=by rw[Rm];simp
theorem X8(l:List (List Int))(t:(List Int)):Je l++[ab1 t]=Je (l++[t]):=by rw[Rm,Rm];simp
theorem ah8(l:List (List Int)):(bA (Je l)).isSome=true:=by rw[Ck];rfl
attribute [go_sem] YO
end Go.Proofs.YtnhdminpjihbnaaGreat
