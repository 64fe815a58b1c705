/-
  The program: the walks of models. A step towards the exact laws.
-/
import Derived.Test.YtphcpjhkeipggaaGreatKBa
set_option linter.unusedVariables false
set_option linter.unusedSimpArgs false
open Int renaming reduceEq→Z1,reduceLT→Z2,reduceLE→Z3,reduceToNat→Z4
open Bool renaming true_and→aA
open Classical renaming em→aa
open List renaming drop_eq_getElem_cons→ae,drop_of_length_le→ak
namespace Go.Proofs.YtphcpjhkeipggaaGreat
open Go.Eng Go.Mod
set_option maxRecDepth 100000
set_option maxHeartbeats 3200000
theorem I4(f:Nat)(cap:List PV)(lF:wj 0 cap=true)(p:Mod.Rat→Bool)(xs:List Mod.Rat)(hf:∀x∈xs,C E.P f (av (fZ x)::cap) [] (jF (bv (p x)) [])) :
 CN 322 [lv (bQ xs),.fn f cap] (iv (idxOf p xs)):=by
 refine gS 19 [.tmp 4] hm Tryz.func322 fun hl he cf=>?_
 refine kC hm xs.length (fun(i:Nat)=>idxOf p xs=fj p (xs.drop i) i) (fun i=>⟨dN 19 .any [(0,lv (bQ xs)),(1,.fn f cap),(7,iv xs.length),(8,iv i)],[]⟩) ?_ (cM []) ?_
 ·simp[idxOf]
 ·rintro i ⟨hi,hg⟩
  rcases aa (i<xs.length) with h1|h1
  ·rw[ae h1,fj] at hg
   refine uA ?_
   have hc:=hf xs[i] (List.getElem_mem h1)
   refine dy cap hc ?_ ?_<;>simp -implicitDefEqProofs only[go_sem,lF]
   cases h2:p xs[i]
   ·rw[h2] at hg
    simp only[Bool.false_eq_true,if_false] at hg
    refine sA ?_
    refine⟨oM,?_⟩
    exact⟨i+1,⟨oM,hg⟩,sL,cM []⟩
   ·rw[h2] at hg
    simp only[if_true] at hg
    exact dD hg
  ·rw[ak oM,fj] at hg
   exact gG h1 hg
theorem vM(f:Nat)(cap:List PV)(lF:wj 0 cap=true)(p:Mod.Rat→Bool)(xs:List Mod.Rat)(hf:∀x∈xs,C E.P f (av (fZ x)::cap) [] (jF (bv (p x)) [])) :
 CN 255 [lv (bQ xs),.fn f cap] (bv (xs.any p)):=by
 refine gS 9 [.tmp 4] hm Tryz.func255 fun hl he cf=>?_
 refine dy [] (I4 f cap lF p xs hf) ?_ ?_<;>simp -implicitDefEqProofs only[go_sem,lF]
 refine bt ?_
 simp[Ep]
theorem vi(a:pL):CN 323 [sv a] (bv false):=by refine gS 6 [.tmp 2] hm Tryz.func323 fun hl he cf=>?_;refine fD ?_;exact sC
theorem zL(a:Int):CN 319 [iv a] (bv false):=by refine gS 6 [.tmp 2] hm Tryz.func319 fun hl he cf=>?_;refine fD ?_;exact sC
theorem Bu(a b:pL):CN 258 [sv a,sv b] (iv (qe a b)):=by have hg:=JL a b;refine gS 20 [.tmp 4] hm Tryz.func258 fun hl he cf=>?_;refine aC [] (vi a) ?_;refine aC [] (vi b) ?_;cases h1:Op.bytesLess a b;rw[h1,Bool.false_or] at hg;cases h2:Op.bytesLess b a;rw[h2] at hg;refine oH h1 hg ?_;simp[qe,iQ,h1,h2];rw[h2] at hg;refine oH h1 hg ?_;simp[qe,iQ,h1,h2];refine bt ?_;simp[qe,iQ,h1]
theorem ED(a b:Int):CN 243 [iv a,iv b] (iv (qY a b)):=by refine gS 20 [.tmp 4] hm Tryz.func243 fun hl he cf=>?_;refine aC [] (zL a) ?_;refine aC [] (zL b) ?_;rcases aa (a<b) with h1|h1;refine du h1 ?_;simp[qY,h1];rcases aa (b<a) with h2|h2;refine oH h1 h2 ?_;simp[qY,h1,h2];refine oH h1 h2 ?_;simp[qY,h1,h2]
def orI:List Int→Int
 | []=>0
 | n::ns=>if n=0 then orI ns else n
theorem acf(ns:List Int):CN 257 [lv (bm ns)] (iv (orI ns)):=by refine gS 18 [.tmp 2] hm Tryz.func257 fun hl he cf=>?_;refine kC hm ns.length (fun(i:Nat)=>orI ns=orI (ns.drop i)) (fun i=>⟨dN 18 .any [(3,iv 0),(6,lv (bm ns)),(7,iv ns.length),(8,iv i)],[]⟩) ?_ (cM []) ?_;simp;rintro i ⟨hi,hg⟩;rcases aa (i<ns.length) with h1|h1;rw[ae h1,orI] at hg;refine uA ?_;rcases aa (ns[i]=0) with h2|h2;rw[if_pos h2] at hg;have k2:=eq_true h2;refine du k2 ?_;exact⟨i+1,⟨oM,hg⟩,sL,cM []⟩;rw[if_neg h2] at hg;exact Cc h2 hg;rw[ak oM,orI] at hg;exact gG h1 hg
theorem DI(a b:Mod.Rat):CN 260 [av (fZ a),av (fZ b)] (iv (rn a b)):=by refine gS 13 [.tmp 4] hm Tryz.func260 fun hl he cf=>?_;refine aC [] (mV a b) ?_;cases h1:eF a b;refine sA ?_;refine aC [] (mV b a) ?_;cases h2:eF b a;refine bt ?_;simp[rn,h1,h2];refine bt ?_;simp[rn,h1,h2];refine bt ?_;simp[rn,h1]
theorem Re{xs ys:List Mod.Rat}{i:Nat}(h:i<xs.length)(h':i<ys.length):jk (xs.drop i) (ys.drop i)=if rn xs[i] ys[i]=0 then jk (xs.drop (i+1)) (ys.drop (i+1)) else rn xs[i] ys[i]:=by rw[ae h,ae h',jk]
theorem FN(a b:List Mod.Rat):CN 259 [lv (bQ a),lv (bQ b),.fn 260 []] (iv (jk a b)):=by refine gS 39 [.tmp 6] hm Tryz.func259 fun hl he cf=>?_;refine kC hm a.length (fun(i:Nat)=>i≤b.length∧jk a b=jk (a.drop i) (b.drop i)) (fun i=>⟨dN 39 .any [(0,lv (bQ a)),(1,lv (bQ b)),(2,.fn 260 []),(11,lv (bQ a)),(12,iv a.length),(13,iv i)],[]⟩) ?_ (cM []) ?_;simp;rintro i ⟨hi,hi2,hg⟩;rcases aa (i<a.length) with h1|h1;rcases aa ((b.length:Int)≤(i:Int)) with h2|h2;have e:i=b.length:=oM;rw[ae h1,ak (l:=b) oM,jk] at hg;exact mH h1 h2 hg;have h3:i<b.length:=oM;rw[Re h1 h3] at hg;simp -implicitDefEqProofs only[go_sem,h1,h2,h3];refine aC [] (DI a[i] b[i]) ?_;rcases aa (rn a[i] b[i]=0) with h4|h4;rw[if_pos h4] at hg;have k4:=eq_true h4;refine du k4 ?_;exact⟨i+1,⟨oM,oM,hg⟩,sL,cM []⟩;rw[if_neg h4] at hg;exact gG h4 hg;rw[ak (l:=a) oM] at hg;rcases aa ((a.length:Int)<(b.length:Int)) with h2|h2;have h3:i<b.length:=oM;rw[ae h3,jk] at hg;exact mH h1 h2 hg;rw[ak (l:=b) oM,jk] at hg;exact mH h1 h2 hg
theorem adu(a b:Mod.Row):orI [qe a.name b.name,qY a.args.length b.args.length,jk a.args b.args]=gx a b:=by simp only[orI,gx];rcases aa (qe a.name b.name=0) with h1|h1;rcases aa (qY a.args.length b.args.length=0) with h2|h2;by_cases h3:jk a.args b.args=0<;>simp[h1,h2,h3];simp[h1,h2];simp[h1]
theorem qm(a b:Mod.Row):CN 163 [av (tn a),av (tn b)] (iv (gx a b)):=by refine gS 24 [.tmp 4] hm Tryz.func163 fun hl he cf=>?_;refine aC [] (Bu a.name b.name) ?_;refine aC [] (ED a.args.length b.args.length) ?_;refine aC [] (FN a.args b.args) ?_;refine AQ [] [2] (acf [qe a.name b.name,qY a.args.length b.args.length,jk a.args b.args]) ?_;refine bt ?_;simp[adu]
theorem Ja(a:Mod.Rat):CN 256 [av (fZ a)] (bv (!cP a)):=by refine gS 6 [.tmp 2] hm Tryz.func256 fun hl he cf=>?_;refine aC [] (ju a) ?_;refine fD ?_;exact sC
theorem Nx(x:Mod.Row):CN 162 [av (tn x)] (bv (mW x)):=by refine gS 23 [.tmp 2] hm Tryz.func162 fun hl he cf=>?_;refine aC [] (sU x.name) ?_;cases h1:gO x.name;simp -implicitDefEqProofs only[go_sem];refine gZ ?_;simp[mW,h1];rcases aa ((x.args.length:Int)≤2) with h2|h2;have h2':x.args.length≤2:=oM;refine bH h2 ?_;refine aC [] (ju x.val) ?_;cases h3:cP x.val;refine bt ?_;simp[mW,h1,h2',h3];refine sA ?_;refine aC [] (vM 256 [] rfl (fun n=>!cP n) x.args (fun n _=>Ja n)) ?_;refine bt ?_;simp[mW,h1,h2',h3,List.all_eq_not_any_not];have h2':¬x.args.length≤2:=oM;refine bH h2 ?_;refine gZ ?_;simp[mW,h1,h2']
def vt(l:List Mod.Row):Nat→Option Mod.Row
 | 0=>none
 | j+1=>l[j]?
theorem It(m:Mod.dQ):CN 85 [av (fX m)] (bv (fS m)):=by
 refine gS 36 [.tmp 2] hm Tryz.func85 fun hl he cf=>?_;rcases aa ((40:Int)<(m.aw.length:Int)) with h0|h0;have h0':¬m.aw.length≤40:=oM;refine du h0 ?_;simp[fS,h0'];have hmo:fS m=xj none m.aw:=by have h0':m.aw.length≤40:=oM;simp[fS,h0']
 refine bH h0 ?_;refine cS hm (fun(i:Nat)=> i≤m.aw.length∧xj none m.aw=xj (vt m.aw i) (m.aw.drop i)) (fun(i:Nat)=> ⟨dN 36 .any [(1,.bA 0 0),(10,lv (cu m.aw)),(11,iv m.aw.length),(12,iv i)],[some (.box (dm (fX m)))]⟩) (fun(i:Nat)=> m.aw.length-i) (0) ?_ (cM fe) ?_;simp[vt];rintro i ⟨hi,hg⟩;rcases aa (i<m.aw.length) with h1|h1
 ·rw[ae h1] at hg;simp only[xj] at hg;refine uA ?_;refine aC [] (Nx m.aw[i]) ?_;cases h2:mW m.aw[i];have e:fS m=false:=(by rw[hmo,hg,h2];simp);refine bt ?_;simp[e];rw[h2,aA] at hg;cases i with
  | zero=>simp only[vt,aA] at hg;simp -implicitDefEqProofs only[go_sem,Int.lt_irrefl];refine bt ?_;refine⟨0+1,?_,sL,cM fe⟩;refine⟨oM,?_⟩;rw[hg];simp[vt,h1]
  | succ j=>have hj:j<m.aw.length:=oM;have e1:((j:Int)+1-1)=(j:Int):=oM;have e2:(0:Int)<(j:Int)+1:=oM;have et:((j:Int)+1).toNat=j+1:=oM;have e3:vt m.aw (j+1)=some m.aw[j]:=(by simp[vt,hj]);rw[e3] at hg;simp only at hg;simp -implicitDefEqProofs only[go_sem,e1,e2,hj];refine sQ ?_;refine aC [] (qm m.aw[j] m.aw[j+1]) ?_;refine iK ?_;rcases aa (0≤gx m.aw[j] m.aw[j+1]) with q4|q4;have q5:¬gx m.aw[j] m.aw[j+1]<0:=oM;have e:fS m=false:=(by rw[hmo,hg];simp[q5]);exact gG q4 e;have q5:gx m.aw[j] m.aw[j+1]<0:=oM;refine du q4 ?_;refine⟨j+1+1,?_,sL,cM fe⟩;refine⟨oM,?_⟩;rw[hg];simp[vt,h1,q5]
 rw[ak oM] at hg;simp only[xj] at hg;exact mH h1 hmo hg
end Go.Proofs.YtphcpjhkeipggaaGreat
