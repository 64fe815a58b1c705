/-
  The program: the walk of papers of consequence. A step towards the exact laws.
-/
import Derived.Test.YtgpjhjalfakpoaaGreatKBm
set_option linter.unusedVariables false
set_option linter.unusedSimpArgs false
namespace Go.Proofs.YtgpjhjalfakpoaaGreat
open Go.Eng Go.Mod
open Int renaming reduceEq→Z1,reduceLT→Z2,reduceLE→Z3,reduceToNat→Z4
set_option maxRecDepth 100000
set_option maxHeartbeats 800000
theorem mU(f:Mod.Form):C E.P 69 [av (cx f)] [] (bw (av (cx (mc f))) []):=by
 refine gT (nt:=6) (rs:=[.cell 2 36]) hm Tryz.func69 fun hl he cp=>?_
 refine ak ?_
 refine sB ?_
 refine⟨rfl,rfl,rfl,rfl,rfl,rfl,rfl,rfl,rfl,rfl,rfl,?_⟩
 cases f;rfl
theorem tK:C E.P 68 [.aV] [] (bw .aV []):=by
 refine gT (nt:=8) (rs:=[.tmp 2]) hm Tryz.func68 fun hl he cp=>?_
 refine qw 36 _ true rfl rfl (by simp -implicitDefEqProofs only[go_sem,Z1,Z2,Z3,Z4]) pV ?_
 try simp -implicitDefEqProofs only[go_sem,Z1,Z2,Z3,Z4]
 refine sI ?_
 refine ak ?_
 exact sD
theorem tJ(a:Addr)(c:Nat):C E.P 68 [.d (.val (.slice (some a) 0 c))] [] (bw (.acc 0) [some (.acc 36 [])]):=by
 refine gT (nt:=8) (rs:=[.tmp 2]) hm Tryz.func68 fun hl he cp=>?_
 refine qw 36 _ false rfl rfl (p:=.d (.val (.slice (some a) 0 c))) (by simp -implicitDefEqProofs only[go_sem,Z1,Z2,Z3,Z4]) (ta _ _ _) ?_
 try simp -implicitDefEqProofs only[go_sem,Z1,Z2,Z3,Z4]
 refine sJ ?_
 refine bh [some 1] ?_ rfl rfl
 exact sD
theorem sj(r:List D)(rs:List (List D))(hl1:rs.length≤2000000)(h1:∀y∈r::rs,y.length=12):C E.P 68 [.d (.b7 (r::rs))] [] (bw (.acc 0) [some (.acc 36 (r::rs))]):=by
 refine gT (nt:=8) (rs:=[.tmp 2]) hm Tryz.func68 fun hl he cp=>?_
 refine qw 36 _ false rfl rfl (p:=.d (.b7 (r::rs))) (by simp -implicitDefEqProofs only[go_sem,Z1,Z2,Z3,Z4]) td ?_
 try simp -implicitDefEqProofs only[go_sem,Z1,Z2,Z3,Z4]
 refine sI ?_
 refine And.intro ⟨?_,by omega,by omega⟩ ?_
 ·simpa using h1
 refine bh [some 1] ?_ rfl rfl
 exact sD
theorem re(f:Mod.Form):C E.P 34 [.aV,av (cx f)] [] (bw (lv (aN [mc f])) []):=by
 refine gT (nt:=11) (rs:=[.tmp 4]) hm Tryz.func34 fun hl he cp=>?_
 refine aD [] tK ?_
 refine sI ?_
 refine aD [] (mU f) ?_
 refine sJ ?_
 refine ak ?_
 refine sB ?_
 rw[dt,fG]
 rfl
theorem ry(f:Mod.Form)(a:Addr)(c:Nat):C E.P 34 [.d (.val (.slice (some a) 0 c)),av (cx f)] [] (bw (lv (aN [mc f])) []):=by
 refine gT (nt:=11) (rs:=[.tmp 4]) hm Tryz.func34 fun hl he cp=>?_
 refine oD [] [1] (tJ a c) ?_
 refine sI ?_
 refine aD [] (mU f) ?_
 refine sJ ?_
 refine ak ?_
 refine sB ?_
 rw[dt,fG]
 rfl
theorem pZ(f:Mod.Form)(r:List D)(rs:List (List D))(hl1:rs.length≤2000000)(h1:∀y∈r::rs,y.length=12):C E.P 34 [.d (.b7 (r::rs)),av (cx f)] [] (bw (lv ((r::rs)++[cx (mc f)])) []):=by
 refine gT (nt:=11) (rs:=[.tmp 4]) hm Tryz.func34 fun hl he cp=>?_
 refine oD [] [1] (sj r rs hl1 h1) ?_
 refine sI ?_
 refine aD [] (mU f) ?_
 refine sJ ?_
 refine ak ?_
 exact sD
theorem yh(list:List Mod.Form)(f:Mod.Form)(wA:list.length≤2000000):C E.P 34 [lv (aN list),av (cx f)] [] (bw (lv (aN (list++[mc f]))) []):=by
 cases list with
 | nil=>exact Ik (re f) (fun a c=>ry f a c)
 | cons x xs=>
   have h1:=nJ (x::xs)
   have e:aN (x::xs++[mc f])=cx x::aN xs++[cx (mc f)]:=by rw[←jM,dt,dt,fG]
   rw[e]
   rw[dt] at h1⊢
   exact pZ f _ (aN xs) (by rw[cQ];simp at wA;omega) h1
end Go.Proofs.YtgpjhjalfakpoaaGreat
