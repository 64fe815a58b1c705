/-
  The program: the walks of models. A step towards the exact laws.
-/
import Derived.Test.YtnhdminpjihbnaaGreatKAL
import Derived.Test.YtnhdminpjihbnaaGreatKAa
set_option linter.unusedVariables false
set_option linter.unusedSimpArgs false
open Int renaming reduceEq→Z1,reduceLT→Z2,reduceLE→Z3,reduceToNat→Z4
open Bool renaming true_and→aN
open Classical renaming em→aa
open List renaming drop_eq_getElem_cons→ai,drop_of_length_le→al
namespace Go.Proofs.YtnhdminpjihbnaaGreat
open Go.Eng Go.Mod
set_option maxRecDepth 100000
set_option maxHeartbeats 800000
theorem JG(f:Nat)(cap:List PV)(jX:wB 0 cap=true)(p:Mod.Rat→Bool)(xs:List Mod.Rat)(hf:∀x∈xs,C E.P f (av (lM x)::cap) [] (gR (bv (p x)) [])) :
 CN 266 [lv (dC xs),.fn f cap] (iv (idxOf p xs)):=by
 refine gS 19 [.tmp 4] hm Tryz.func266 fun hl he cV=>?_
 refine lZ hm xs.length (fun(i:Nat)=>idxOf p xs=eM p (xs.drop i) i) (fun i=>⟨fk 19 .any [(0,lv (dC xs)),(1,.fn f cap),(7,iv xs.length),(8,iv i)],[]⟩) ?_ (c9 []) ?_
 ·simp[idxOf]
 ·rintro i ⟨hi,hg⟩
  rcases aa (i<xs.length) with h1|h1
  ·rw[ai h1,eM] at hg
   refine uA ?_
   have hc:=hf xs[i] (List.getElem_mem h1)
   refine eh cap hc ?_ ?_<;>simp -implicitDefEqProofs only[go_sem,jX]
   cases h2:p xs[i]
   ·rw[h2] at hg
    simp only[Bool.false_eq_true,if_false] at hg
    refine sA ?_
    refine⟨oM,?_⟩
    exact⟨i+1,⟨oM,hg⟩,sL,c9 []⟩
   ·rw[h2] at hg
    simp only[if_true] at hg
    exact fA hg
  ·rw[al oM,eM] at hg
   exact lJ h1 hg
theorem wA(f:Nat)(cap:List PV)(jX:wB 0 cap=true)(p:Mod.Rat→Bool)(xs:List Mod.Rat)(hf:∀x∈xs,C E.P f (av (lM x)::cap) [] (gR (bv (p x)) [])) :
 CN 247 [lv (dC xs),.fn f cap] (bv (xs.any p)):=by
 refine gS 9 [.tmp 4] hm Tryz.func247 fun hl he cV=>?_
 refine eh [] (JG f cap jX p xs hf) ?_ ?_<;>simp -implicitDefEqProofs only[go_sem,jX]
 refine bI ?_
 simp[BV]
theorem vX(a:p8):CN 251 [sv a] (bv false):=by refine gS 6 [.tmp 2] hm Tryz.func251 fun hl he cV=>?_;refine fv ?_;exact sC
theorem zT(a:Int):CN 191 [iv a] (bv false):=by refine gS 6 [.tmp 2] hm Tryz.func191 fun hl he cV=>?_;refine fv ?_;exact sC
theorem Az(a b:p8):CN 212 [sv a,sv b] (iv (qw a b)):=by have hg:=J2 a b;refine gS 20 [.tmp 4] hm Tryz.func212 fun hl he cV=>?_;refine aC [] (vX a) ?_;refine aC [] (vX b) ?_;cases h1:Op.bytesLess a b;rw[h1,Bool.false_or] at hg;cases h2:Op.bytesLess b a;rw[h2] at hg;refine pV h1 hg ?_;simp[qw,kn,h1,h2];rw[h2] at hg;refine pV h1 hg ?_;simp[qw,kn,h1,h2];refine bI ?_;simp[qw,kn,h1]
theorem Gp(a b:Int):CN 146 [iv a,iv b] (iv (rJ a b)):=by refine gS 20 [.tmp 4] hm Tryz.func146 fun hl he cV=>?_;refine aC [] (zT a) ?_;refine aC [] (zT b) ?_;rcases aa (a<b) with h1|h1;refine dB h1 ?_;simp[rJ,h1];rcases aa (b<a) with h2|h2;refine pV h1 h2 ?_;simp[rJ,h1,h2];refine pV h1 h2 ?_;simp[rJ,h1,h2]
def orI:List Int→Int
 | []=>0
 | n::ns=>if n=0 then orI ns else n
theorem abn(ns:List Int):CN 211 [lv (bj ns)] (iv (orI ns)):=by refine gS 18 [.tmp 2] hm Tryz.func211 fun hl he cV=>?_;refine lZ hm ns.length (fun(i:Nat)=>orI ns=orI (ns.drop i)) (fun i=>⟨fk 18 .any [(3,iv 0),(6,lv (bj ns)),(7,iv ns.length),(8,iv i)],[]⟩) ?_ (c9 []) ?_;simp;rintro i ⟨hi,hg⟩;rcases aa (i<ns.length) with h1|h1;rw[ai h1,orI] at hg;refine uA ?_;rcases aa (ns[i]=0) with h2|h2;rw[if_pos h2] at hg;have k2:=eq_true h2;refine dB k2 ?_;exact⟨i+1,⟨oM,hg⟩,sL,c9 []⟩;rw[if_neg h2] at hg;exact EN h2 hg;rw[al oM,orI] at hg;exact lJ h1 hg
theorem DJ(a b:Mod.Rat):CN 214 [av (lM a),av (lM b)] (iv (rk a b)):=by refine gS 13 [.tmp 4] hm Tryz.func214 fun hl he cV=>?_;refine aC [] (ni a b) ?_;cases h1:gW a b;refine sA ?_;refine aC [] (ni b a) ?_;cases h2:gW b a;refine bI ?_;simp[rk,h1,h2];refine bI ?_;simp[rk,h1,h2];refine bI ?_;simp[rk,h1]
theorem Sb{xs ys:List Mod.Rat}{i:Nat}(h:i<xs.length)(h':i<ys.length):jC (xs.drop i) (ys.drop i)=if rk xs[i] ys[i]=0 then jC (xs.drop (i+1)) (ys.drop (i+1)) else rk xs[i] ys[i]:=by rw[ai h,ai h',jC]
theorem Ew(a b:List Mod.Rat):CN 213 [lv (dC a),lv (dC b),.fn 214 []] (iv (jC a b)):=by refine gS 39 [.tmp 6] hm Tryz.func213 fun hl he cV=>?_;refine lZ hm a.length (fun(i:Nat)=>i≤b.length∧jC a b=jC (a.drop i) (b.drop i)) (fun i=>⟨fk 39 .any [(0,lv (dC a)),(1,lv (dC b)),(2,.fn 214 []),(11,lv (dC a)),(12,iv a.length),(13,iv i)],[]⟩) ?_ (c9 []) ?_;simp;rintro i ⟨hi,hi2,hg⟩;rcases aa (i<a.length) with h1|h1;rcases aa ((b.length:Int)≤(i:Int)) with h2|h2;have e:i=b.length:=oM;rw[ai h1,al (l:=b) oM,jC] at hg;exact p9 h1 h2 hg;have h3:i<b.length:=oM;rw[Sb h1 h3] at hg;simp -implicitDefEqProofs only[go_sem,h1,h2,h3];refine aC [] (DJ a[i] b[i]) ?_;rcases aa (rk a[i] b[i]=0) with h4|h4;rw[if_pos h4] at hg;have k4:=eq_true h4;refine dB k4 ?_;exact⟨i+1,⟨oM,oM,hg⟩,sL,c9 []⟩;rw[if_neg h4] at hg;exact lJ h4 hg;rw[al (l:=a) oM] at hg;rcases aa ((a.length:Int)<(b.length:Int)) with h2|h2;have h3:i<b.length:=oM;rw[ai h3,jC] at hg;exact p9 h1 h2 hg;rw[al (l:=b) oM,jC] at hg;exact p9 h1 h2 hg
theorem ae7(a b:Mod.Row):orI [qw a.name b.name,rJ a.args.length b.args.length,jC a.args b.args]=gP a b:=by simp only[orI,gP];rcases aa (qw a.name b.name=0) with h1|h1;rcases aa (rJ a.args.length b.args.length=0) with h2|h2;by_cases h3:jC a.args b.args=0<;>simp[h1,h2,h3];simp[h1,h2];simp[h1]
theorem qx(a b:Mod.Row):CN 174 [av (BJ a),av (BJ b)] (iv (gP a b)):=by refine gS 24 [.tmp 4] hm Tryz.func174 fun hl he cV=>?_;refine aC [] (Az a.name b.name) ?_;refine aC [] (Gp a.args.length b.args.length) ?_;refine aC [] (Ew a.args b.args) ?_;refine CM [] [2] (abn [qw a.name b.name,rJ a.args.length b.args.length,jC a.args b.args]) ?_;refine bI ?_;simp[ae7]
theorem Jb(a:Mod.Rat):CN 268 [av (lM a)] (bv (!eC a)):=by refine gS 6 [.tmp 2] hm Tryz.func268 fun hl he cV=>?_;refine aC [] (jw a) ?_;refine fv ?_;exact sC
theorem Ot(x:Mod.Row):CN 253 [av (BJ x)] (bv (tv x)):=by refine gS 23 [.tmp 2] hm Tryz.func253 fun hl he cV=>?_;refine aC [] (xI x.name) ?_;cases h1:ig x.name;simp -implicitDefEqProofs only[go_sem];refine An ?_;simp[tv,h1];rcases aa ((x.args.length:Int)≤2) with h2|h2;have h2':x.args.length≤2:=oM;refine bS h2 ?_;refine aC [] (jw x.val) ?_;cases h3:eC x.val;refine bI ?_;simp[tv,h1,h2',h3];refine sA ?_;refine aC [] (wA 268 [] rfl (fun n=>!eC n) x.args (fun n _=>Jb n)) ?_;refine bI ?_;simp[tv,h1,h2',h3,List.all_eq_not_any_not];have h2':¬x.args.length≤2:=oM;refine bS h2 ?_;refine An ?_;simp[tv,h1,h2']
def vM(l:List Mod.Row):Nat→Option Mod.Row
 | 0=>none
 | j+1=>l[j]?
theorem Jc(m:Mod.dZ):CN 217 [av (nY m)] (bv (jk m)):=by
 refine gS 36 [.tmp 2] hm Tryz.func217 fun hl he cV=>?_;rcases aa ((40:Int)<(m.aK.length:Int)) with h0|h0;have h0':¬m.aK.length≤40:=oM;refine dB h0 ?_;simp[jk,h0'];have hmo:jk m=yz none m.aK:=by have h0':m.aK.length≤40:=oM;simp[jk,h0']
 refine bS h0 ?_;refine hJ hm (fun(i:Nat)=> i≤m.aK.length∧yz none m.aK=yz (vM m.aK i) (m.aK.drop i)) (fun(i:Nat)=> ⟨fk 36 .any [(1,.bK 0 0),(10,lv (fm m.aK)),(11,iv m.aK.length),(12,iv i)],[some (.box (fy (nY m)))]⟩) (fun(i:Nat)=> m.aK.length-i) (0) ?_ (c9 gE) ?_;simp[vM];rintro i ⟨hi,hg⟩;rcases aa (i<m.aK.length) with h1|h1
 ·rw[ai h1] at hg;simp only[yz] at hg;refine uA ?_;refine aC [] (Ot m.aK[i]) ?_;cases h2:tv m.aK[i];have e:jk m=false:=(by rw[hmo,hg,h2];simp);refine bI ?_;simp[e];rw[h2,aN] at hg;cases i with
  | zero=>simp only[vM,aN] at hg;simp -implicitDefEqProofs only[go_sem,Int.lt_irrefl];refine bI ?_;refine⟨0+1,?_,sL,c9 gE⟩;refine⟨oM,?_⟩;rw[hg];simp[vM,h1]
  | succ j=>have hj:j<m.aK.length:=oM;have e1:((j:Int)+1-1)=(j:Int):=oM;have e2:(0:Int)<(j:Int)+1:=oM;have et:((j:Int)+1).toNat=j+1:=oM;have e3:vM m.aK (j+1)=some m.aK[j]:=(by simp[vM,hj]);rw[e3] at hg;simp only at hg;simp -implicitDefEqProofs only[go_sem,e1,e2,hj];refine sQ ?_;refine aC [] (qx m.aK[j] m.aK[j+1]) ?_;refine iK ?_;rcases aa (0≤gP m.aK[j] m.aK[j+1]) with q4|q4;have q5:¬gP m.aK[j] m.aK[j+1]<0:=oM;have e:jk m=false:=(by rw[hmo,hg];simp[q5]);exact lJ q4 e;have q5:gP m.aK[j] m.aK[j+1]<0:=oM;refine dB q4 ?_;refine⟨j+1+1,?_,sL,c9 gE⟩;refine⟨oM,?_⟩;rw[hg];simp[vM,h1,q5]
 rw[al oM] at hg;simp only[yz] at hg;exact p9 h1 hmo hg
end Go.Proofs.YtnhdminpjihbnaaGreat
