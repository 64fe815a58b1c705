/-
  Copies that share nothing: the walks. A step towards the exact laws.
-/
import Derived.Test.YtnhdminpjihbnaaGreatKAq
import Derived.Test.YtnhdminpjihbnaaGreatKAl
set_option linter.unusedVariables false
set_option linter.unusedSimpArgs false
open Int renaming reduceEq→Z1,reduceLT→Z2,reduceLE→Z3,reduceToNat→Z4
open Classical renaming em→aa
namespace Go.Proofs.YtnhdminpjihbnaaGreat
open Go.Eng Go.Mod
set_option maxRecDepth 100000
set_option maxHeartbeats 800000
theorem Hn:C E.P 58 [.bE] [] (gR (.aW 0) [some (.e9 3 (rE []))]):=by refine gT 8 [.tmp 2] hm Tryz.func58 fun hl he cV=>?_;refine wW 3 _ true rfl rfl (by simp -implicitDefEqProofs only[go_sem,Z1,Z2,Z3,Z4]) vl ?_;refine sB ?_;refine gB_ [none] ?_;rfl
theorem HF(a:Addr)(c:Nat):C E.P 58 [.d (.val (.slice (some a) 0 c))] [] (gR (.aW 0) [some (.e9 3 (rE []))]):=by refine gT 8 [.tmp 2] hm Tryz.func58 fun hl he cV=>?_;refine wW 3 _ false rfl rfl (p:=.d (.val (.slice (some a) 0 c))) (by simp -implicitDefEqProofs only[go_sem,Z1,Z2,Z3,Z4]) (B6 _ _ _) ?_;refine me ?_;refine gB_ [some 1] ?_;rfl
theorem Gu(n:Int)(ns:List Int)(hl1:ns.length≤8000000):C E.P 58 [.d (.eP (bj (n::ns)))] [] (gR (.aW 0) [some (.e9 3 (rE (n::ns)))]):=by have h1:=ny (n::ns);have hl2:(bj ns).length=ns.length:=j6 ns;rw[dP] at h1⊢;refine gT 8 [.tmp 2] hm Tryz.func58 fun hl he cV=>?_;refine wW 3 _ false rfl rfl (p:=.d (.eP ([.val (.int .i64 n)]::bj ns))) (by simp -implicitDefEqProofs only[go_sem,Z1,Z2,Z3,Z4]) CB ?_;refine sB ?_;refine And.intro ⟨?_,oM,oM⟩ ?_;simpa using h1;refine bM [some 1] ?_ rfl rfl;refine me ?_;rw[←zw,dP]
theorem Dy(ns:List Int)(hl1:ns.length≤8000000):C E.P 58 [lv (bj ns)] [] (gR (.aW 0) [some (.e9 3 (rE ns))]):=by
 cases ns with
 | nil=>exact ES Hn HF
 | cons x xs=>exact Gu x xs (by simp at hl1;omega)
theorem wy(ts:List az)(ih:∀k∈ts,C E.P 117 [av (cT k)] [] (gR (.agg [sv k.name,.aW 0]) [some (.e9 31 (rS k.ar))])):C E.P 135 [lv (ba ts)] [] (gR (.aW 0) [some (.e9 31 (rS ts))]):=by
 refine gT 19 [.tmp 2] hm Tryz.func135 fun hl he cV=>?_;refine jf hm ts.length (fun i=>⟨fk 19 .any [(3,.aW 0),(6,lv (ba ts)),(7,iv ts.length),(8,iv i)],[some (.e9 31 (rS (ts.take i)))]⟩) (c9 [none]) ?_;rintro i hi;have hp:(rS (ts.take i)).length=i:=by rw[RE,List.length_take];omega
 rcases aa (i<ts.length) with h1|h1
 ·refine yA ?_;have hc:=ih ts[i] (List.getElem_mem h1);refine oD [] [2] hc ?_;refine⟨oM,oM,?_⟩;refine⟨i+1,?_,?_,pQ 4 i _ rfl (by rw[List.length_append,hp];simp) (ll hp) ?_⟩;rotate_left;show _ < _;omega
  ·refine sB ?_;refine bW [some 4] ?_ ?_ rfl rfl;exact sD;refine sB ?_;all_goals(rw[je hp];exact⟨EK h1,(congrArg (fun z=>(bA z).isSome) (EK h1)).trans (acw _)⟩)
  exact h1
 refine ae0 h1 ?_;refine bM gE ?_ rfl rfl;refine sB ?_;rw[List.take_of_length_le oM]
theorem N7(t:az)(ih:∀k∈t.ar,C E.P 117 [av (cT k)] [] (gR (.agg [sv k.name,.aW 0]) [some (.e9 31 (rS k.ar))])):C E.P 117 [av (cT t)] [] (gR (.agg [sv t.name,.aW 0]) [some (.e9 31 (rS t.ar))]):=by refine gT 9 [.cell 2 31] hm Tryz.func117 fun hl he cV=>?_;refine xN [] [2] (wy t.ar ih) ?_;skip;refine bM [some 2] ?_ rfl rfl;exact sD
theorem rl:∀t,C E.P 117 [av (cT t)] [] (gR (.agg [sv t.name,.aW 0]) [some (.e9 31 (rS t.ar))]):=
 az.ind fun n ks ih=>N7 _ ih
theorem Fg(ts:List az):C E.P 135 [lv (ba ts)] [] (gR (.aW 0) [some (.e9 31 (rS ts))]):=wy ts fun t _=>rl t
theorem F0(a:bz)(hl1:a.bt.length≤8000000):C E.P 84 [av (iA a)] [] (gR (.agg (ag7 a 0)) (agV a)):=by refine gT 20 [.cell 2 34] hm Tryz.func84 fun hl he cV=>?_;refine oD [] [2] (rl a.A) ?_;refine oD [] [3] (rl a.B) ?_;refine oD [] [4] (Fg a.an) ?_;refine xN [] [5] (Dy a.bt hl1) ?_;refine bM [some 2,some 3,some 4,some 5] ?_ rfl rfl;exact sD
end Go.Proofs.YtnhdminpjihbnaaGreat
