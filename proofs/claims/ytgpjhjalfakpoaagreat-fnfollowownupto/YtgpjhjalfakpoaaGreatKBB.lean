/-
  The symbolic layer, ninth text: the rules of append, of slices that are made or cut, of structs that are built, of a store into a slice of the call's own.
-/
import Derived.Test.YtgpjhjalfakpoaaGreatKBA
import Derived.Orders
set_option linter.unusedVariables false
set_option linter.unusedSimpArgs false
open Array renaming getD_eq_getD_getElem?→bp,replicate→kY,getElem?_eq_some_iff→mh,getElem?_replicate→nc
open Bool renaming and_eq_true→ae,false_eq_true→al,or_eq_true→fF
open Classical renaming choose→kh
open Int renaming toNat_natCast→aA
open List renaming getElem?_eq_getElem→ab,length_cons→aq,replicate→au,mem_cons→aw,getD_eq_getElem?_getD→aB,mem_append→aG,map_cons→aR,getElem?_append_right→aX,getElem?_append_left→aZ,eq_nil_of_length_eq_zero→ba,nil_append→bB,getElem?_eq_none→bM,mem_filter→cM,filter_cons→dg,getElem?_map→dQ,replicate_succ→eY,nodup_cons→gP,getElem?_cons_zero→jt,range→mf
open Nat renaming le_refl→ar,add_mul→br,zero_add→bV,lt_or_ge→cI,zero_le→cN,lt_of_lt_of_le→eh,add_zero→eD,lt_trichotomy→fN,sub_self→gG
open Option renaming getD_some→bP,isSome_iff_exists→b8
namespace Go.Eng
open Go.RowKit
section
variable{E:Env}{g:G}{d:Nat}{ty:TypeId}{pos:String}{cP:Array Edge}{gd:Option (Nat×Bool)}{dn:Option Nat}
theorem mN{o:Oper}{s x:Operand}{t:TypeId}(ho:o.op= .call { callee:=.builtin .append,args:=#[s,x],argTypes:=#[t,t] })(a:Act)(w w':World)(v:Value)(h:(Builtin.append_ #[t,t] o.type #[a.eval s,a.eval x]).run E.P w= .ok v w') :
 (execOp a.eval o).run E.P w= .ok (.value v) w':=by
 unfold execOp
 simp only[ho,resolve,invoke,builtin,Sem.run_bind,Sem.run_pure,Result.andThen_ok,List.map_toArray,aR,List.map_nil,h]
theorem F4{P:Program}{X:Cx}{ν:Nat→Nm}{g:G}{a:Act}{w:World}(h:Sat P X ν g a w){k e:Nat}{ys:List (List D)}(hk:g.at k=some (.acc e ys)) :
 ∃vs,bg w (bm X ν g.at) (P.cellsOf e) ys vs∧pG w (ν k).v vs∧ys.length≤LB:=by
 obtain⟨vs,ho,hr,hl,_⟩:=h.en k _ hk
 refine⟨vs,hr,?_,hl⟩
 rcases ho.2 with⟨h1,h2⟩|⟨b,cap,cur,h1,_⟩
 ·left
  refine⟨⟨none,0,h1⟩,?_⟩
  have:=hr.len
  rw[h2] at this
  exact ba this
 ·right
  exact⟨b,0,cap,by rw[h1,hr.len],ky ho h1⟩
theorem F0{w:World}{ok:Nat→Prop}{ys:List (List D)}{v:Value}(h:dC w ok (.b7 ys) v)(mq:ys≠[])(sz:Nat)(hz:∀y∈ys,y.length=sz) :
 ∃vs,bg w ok sz ys vs∧pG w v vs∧ys.length≤LB:=by
 rcases h.nW with⟨rfl,_⟩|⟨us,b,off,cap,sz',h1,_,_,_,_,hB,fC,hc⟩
 ·exact(mq rfl).elim
 ·have:sz'=sz:=by
   cases ys with
   | nil=>exact(mq rfl).elim
   | cons y ys=>rw[←fC.hx 0 y rfl];exact hz y (by simp)
  subst this
  exact⟨us,fC,.inr ⟨b,off,cap,by rw[h1,fC.len],hc⟩,hB⟩
def pd(E:Env)(sz:Nat)(g:G)(p:PV)(ys:List (List D)):Prop:=
 (p= .aV∧ys=[])∨(p= .d (.b7 ys)∧(∀y∈ys,y.length=sz))∨(∃k e ei,p= .acc k∧g.at k=some (.acc e ys)∧E.ti e=some ei∧ei.n=sz)∨(∃a c,p= .d (.val (.slice (some a) 0 c))∧ys=[])
theorem DW{w:World}{ok:Nat→Prop}{ys:List (List D)}{v:Value}(h:dC w ok (.b7 ys) v)(sz:Nat)(hz:∀y∈ys,y.length=sz) :
 ∃vs,bg w ok sz ys vs∧pG w v vs∧ys.length≤LB:=by
 by_cases mq:ys=[]
 ·subst mq
  refine⟨[],bg.nil w ok sz,?_,by simp⟩
  rcases h.nW with⟨_,a,c,h1,_⟩|⟨us,b,off,cap,sz',h1,_,_,_,_,hB,fC,hc⟩
  ·exact .inl ⟨⟨a,c,h1⟩,rfl⟩
  ·have:us=[]:=ba fC.len
   subst this
   exact .inr ⟨b,off,cap,h1,hc⟩
 ·exact F0 h mq sz hz
theorem nN{P0:Program}{X:Cx}{ν:Nat→Nm}{g:G}{a:Act}{w:World}{sz:Nat}{p:PV}{ys:List (List D)}{v:Value}(h:Sat E.P X ν g a w)(ha:pd E sz g p ys)(hv:aj w (bm X ν g.at) ν g.at p v) :
 ∃vs,bg w (bm X ν g.at) sz ys vs∧pG w v vs∧ys.length≤LB:=by
 rcases ha with⟨rfl,rfl⟩|⟨rfl,hz⟩|⟨k,e,ei,rfl,hk,he,hz⟩|⟨a,c,rfl,rfl⟩
 ·simp only[aj] at hv
  exact⟨[],bg.nil w _ sz,.inl ⟨⟨_,_,hv⟩,rfl⟩,by simp⟩
 ·simp only[aj] at hv
  exact DW hv sz hz
 ·simp only[aj] at hv
  rw[hv.2,←hz,← (E.ok e ei he).cells]
  exact F4 h hk
 ·simp only[aj] at hv
  exact⟨[],bg.nil w _ sz,.inl ⟨⟨_,_,hv.vP⟩,rfl⟩,by simp⟩
def pX:PV→List Nat
 | .acc k=>[k]
 | _=>[]
theorem pd.agree{R:Rd}{g g2:G}(h:rN R g g2){sz:Nat}{p:PV}{ys:List (List D)}(hp:∀k∈pX p,k∈R.p)(ha:pd E sz g p ys):pd E sz g2 p ys:=by
 rcases ha with h1|h1|⟨k,e,ei,rfl,hk,he,hz⟩|h1
 ·exact .inl h1
 ·exact .inr (.inl h1)
 ·exact .inr (.inr (.inl ⟨k,e,ei,rfl,(h.p k (hp k (by simp[pX]))).trans hk,he,hz⟩))
 ·exact .inr (.inr (.inr h1))
theorem yW(s x:Operand)(t e k':Nat)(ti ei:TI)(p:PV)(ys:List (List D))(ht:E.ti t=some ti)(fW:ti.ty= .slice e)(he:E.ti e=some ei)(hs:g.ev s= .aV)(hx:g.ev x=p)(ha:pd E ei.n g p ys)(hk':g.at k'=none)
 (hlb:ys.length≤LB) (hby:ys.length*ei.bytes≤140737488355328) :
 gL E.P ⟨some d,.call ⟨.builtin .append,#[s,x],#[t,t]⟩,ty,pos,cP,gd⟩ g ⟨bZ s++bZ x,k'::pX p⟩ ⟨some (d,.acc k'),[(k',.acc e ys)]⟩:=by
 intro g2 hg
 have e1:=hg.ev (x:=s) (fun t h=>by simp[h])
 have e2:=hg.ev (x:=x) (fun t h=>by simp[h])
 have h3:=(hg.p k' (by simp)).trans hk'
 have ha2:=ha.agree hg (fun k h=>by simp[h])
 intro X ν a w next Q dX hn
 have hv:=dX.ev s
 rw[e1,hs] at hv
 have jT:=dX.ev x
 rw[e2,hx] at jT
 simp only[aj] at hv
 obtain⟨vs,fC,hsl,_⟩:=nN (P0:=E.P) dX ha2 jT
 obtain⟨v',w',k1,k2,k3,k4⟩:=jA ht fW he w ty (.slice none 0 0) (a.eval x) 0 [] ys vs _ (World.ownsRow_nil w 0 e ei.n) fC hsl (by omega) (by simpa using hby)
 have hr:=mN (E:=E) (o:=⟨some d,.call ⟨.builtin .append,#[s,x],#[t,t]⟩,ty,pos,cP,gd⟩) rfl a w w' v' (by rw[hv];exact k1)
 unfold Oper.wp
 rw[hr,Oper.upon_value]
 simp only[bV,bB] at k2
 refine hn _ _ _ (dX.qW (k3.mono fun b hb _=>by simp[oE] at hb) k' h3 (.acc e ys) ⟨v',[]⟩ ?_ (fun b hb=>(k4 b ((hX rfl).1 hb)).resolve_left (by simp[oE])) d _ _ ?_ ?_)
 ·show v'.oneCell'=true
  rcases k2.2 with⟨h,_⟩|⟨b,c,cur,h,_⟩<;>rw[h]<;>rfl
 ·intro ok st ν' hν hw hm
  refine⟨vs,by rw[hν,(E.ok e ei he).cells];exact k2,?_,hlb,by rw[hν]⟩
  rw[(E.ok e ei he).cells]
  exact fC.frame hw k3.size
 ·intro ok st ν' hν dh hw hm
  simp only[aj]
  exact⟨by rw[dh];rfl,by rw[hν]⟩
theorem zi(s x:Operand)(t e k k':Nat)(ti ei:TI)(p:PV)(xs ys:List (List D))(ht:E.ti t=some ti)(fW:ti.ty= .slice e)(he:E.ti e=some ei)(hs:g.ev s= .acc k)(hk:g.at k=some (.acc e xs))(hx:g.ev x=p)(ha:pd E ei.n g p ys)(hk':g.at k'=none)
 (hlb:xs.length+ys.length≤LB) (hby:(xs.length+ys.length)*ei.bytes≤140737488355328) :
 gL E.P ⟨some d,.call ⟨.builtin .append,#[s,x],#[t,t]⟩,ty,pos,cP,gd⟩ g ⟨bZ s++bZ x,k::k'::pX p⟩ ⟨some (d,.acc k'),[(k,.dead),(k',.acc e (xs++ys))]⟩:=by
 intro g2 hg
 have e1:=hg.ev (x:=s) (fun t h=>by simp[h])
 have e2:=hg.ev (x:=x) (fun t h=>by simp[h])
 have h2:=(hg.p k (by simp)).trans hk
 have h3:=(hg.p k' (by simp)).trans hk'
 have ha2:=ha.agree hg (fun k h=>by simp[h])
 intro X ν a w next Q dX hn
 have hv:=dX.ev s
 rw[e1,hs] at hv
 have jT:=dX.ev x
 rw[e2,hx] at jT
 simp only[aj] at hv
 obtain⟨vs,fC,hsl,_⟩:=nN (P0:=E.P) dX ha2 jT
 obtain⟨us,dP,hru,_⟩:=dX.en k _ h2
 rw[(E.ok e ei he).cells] at dP hru
 obtain⟨v',w',k1,k2,k3,k4⟩:=jA ht fW he w ty (ν k).v (a.eval x) xs.length us.flatten ys vs _ dP fC hsl hlb hby
 have hr:=mN (E:=E) (o:=⟨some d,.call ⟨.builtin .append,#[s,x],#[t,t]⟩,ty,pos,cP,gd⟩) rfl a w w' v' (by rw[hv.2];exact k1)
 unfold Oper.wp
 rw[hr,Oper.upon_value]
 refine hn _ _ _ (dX.move (some k) (fun j hj=>⟨_,by obtain rfl:=Option.some.inj hj;exact h2,rfl⟩) (k3.mono fun b hb _=>⟨k,rfl,.inl hb⟩) k' h3 (.acc e (xs++ys)) ⟨v',[]⟩ ?_
  (fun b hb=>(k4 b ((hX rfl).1 hb)).imp (fun h=>⟨k,rfl,.inl h⟩) id) d _ _ ?_ ?_)
 ·show v'.oneCell'=true
  rcases k2.2 with⟨h,_⟩|⟨b,c,cur,h,_⟩<;>rw[h]<;>rfl
 ·intro ok st ν' hν hw hm
  refine⟨us++vs,?_,?_,by simpa using hlb,by rw[hν]⟩
  ·rw[hν,(E.ok e ei he).cells,List.length_append,List.flatten_append];exact k2
  ·rw[(E.ok e ei he).cells]
   exact(hru.append fC).frame hw k3.size
 ·intro ok st ν' hν dh hw hm
  simp only[aj]
  exact⟨by rw[dh];rfl,by rw[hν]⟩
theorem bg.replicate{w:World}{ok:Nat→Prop}{sz:Nat}{x:List D}{u:List Value}(m:Nat)(hx:x.length=sz)(hu:u.length=sz)
 (hr:∀(j:Nat)(d:D)(v:Value),x[j]?=some d→u[j]?=some v→dC w ok d v):bg w ok sz (au m x) (au m u):=by
 induction m with
 | zero=>exact bg.nil _ _ _
 | succ m ih=>exact ih.cons hx hu hr
theorem z8(z:List Value)(hz:0<z.length):∀n,(madeCells ⟨z⟩ (n*z.length)).toList=(au n z).flatten:=by
 intro n
 apply List.ext_getElem?
 intro j
 have h1:((au n z).flatten)[j]?=if j<n*z.length then z[j % z.length]? else none:=by
  induction n generalizing j with
  | zero=>simp
  | succ n ih=>
    rw[eY,List.flatten_cons]
    by_cases hj:j<z.length
    ·rw[aZ hj,Nat.mod_eq_of_lt hj,if_pos (by rw[br];omega)]
    ·rw[aX (by omega),ih,br]
     have e:j % z.length=(j-z.length) % z.length:=by
      conv=>lhs;rw[show j=(j-z.length)+z.length from by omega]
      rw[Nat.add_mod_right]
     rw[e]
     by_cases hc:j-z.length<n*z.length
     ·rw[if_pos hc,if_pos (by omega)]
     ·rw[if_neg hc,if_neg (by omega)]
 rw[h1]
 have hm:j % z.length<z.length:=Nat.mod_lt _ hz
 simp only[madeCells,Array.toList_map,Array.toList_range,dQ]
 by_cases hj:j<n*z.length
 ·rw[List.getElem?_range hj,if_pos hj]
  simp only[Option.map_some,List.size_toArray,ab hm]
  congr 1
  rw[getElem!_pos _ _ (by simpa using hm)]
  simp
 ·rw[bM (by simpa using hj),if_neg hj]
  rfl
theorem LD(l c:Operand)(t e k:Nat)(ti ei:TI)(n:Int)(z:List D)(ht:E.ti t=some ti)(fW:ti.ty= .slice e)(he:E.ti e=some ei)(hz:qE ei.zero=some z)(hl:g.ev l= .d (.val (.int .i64 n)))(hc:g.ev c= .d (.val (.int .i64 n)))
 (hk:g.at k=none) (h0:0≤n) (hlb:n.toNat≤LB) (hby:ei.bytes*n.toNat≤281474976710656) :
 gL E.P ⟨some d,.makeSlice t l c,ty,pos,cP,gd⟩ g ⟨bZ l++bZ c,[k]⟩ ⟨some (d,.acc k),[(k,.acc e (au n.toNat z))]⟩:=by
 intro g2 hg
 have e1:=hg.ev (x:=l) (fun t h=>by simp[h])
 have e2:=hg.ev (x:=c) (fun t h=>by simp[h])
 have h3:=(hg.p k (by simp)).trans hk
 intro X ν a w next Q dX hn
 have hv:=dX.ev l
 rw[e1,hl] at hv
 have jT:=dX.ev c
 rw[e2,hc] at jT
 have hv:=fK hv
 have jT:=fK jT
 have hu:=(E.ok t ti ht).ty
 rw[fW] at hu
 obtain⟨i,zv,i1,i2,i3,i4,i5,i6⟩:=(E.ok e ei he).info
 have hpos:=(E.ok e ei he).pos
 obtain⟨m,rfl⟩:∃m:Nat,n=m:=⟨n.toNat,by omega⟩
 simp only[aA] at hlb hby⊢
 have hml:(m:Int)≤9223372036854775807:=by unfold LB at hlb;omega
 have hbb:(i.bytes:Int)*(m:Int)≤281474976710656:=by
  rw[i3,←Int.natCast_mul]
  omega
 have hr:=run_make (P:=E.P) w t e i zv hu i1 i4 .i64 .i64 m m (by omega) (Int.le_refl _) hbb hml
 simp only[aA] at hr
 have kM:=World.ownsRow_lit w (e:=e) (madeCells zv.cells (m*i.size)) m (base:=0) (size:=i.size) (cN _) (by simp only[maxLen];unfold LB at hlb;omega) (size_madeCells _ _)
 have ke:(execOp a.eval ⟨some d,.makeSlice t l c,ty,pos,cP,gd⟩).run E.P w= .ok (.value (.slice (some ⟨w.heap.size,0,none⟩) m m)) (w.alloc (.cells (madeCells zv.cells (m*i.size)) e)):=by
  simp only[execOp,hv,jT,Sem.run_bind,hr,Result.andThen_ok]
  rfl
 have hzl:zv.cells.toList.length=ei.n:=by simpa using i6
 have hflat:(madeCells zv.cells (m*i.size)).toList=(au m zv.cells.toList).flatten:=by
  have:=z8 zv.cells.toList (by omega) m
  rw[←this,i2,hzl]
 unfold Oper.wp
 rw[ke,Oper.upon_value]
 refine hn _ _ _ (dX.qW (gp w _) k h3 (.acc e (au m z)) ⟨.slice (some ⟨w.heap.size,0,none⟩) m m,[]⟩ rfl (fun b hb=>?_) d _ _ ?_ ?_)
 ·obtain rfl:w.heap.size=b:=by simpa[Nm.has,oE] using hb
  exact ar _
 ·intro ok st ν' hν hw hm
  have hzr:ai (w.alloc (.cells (madeCells zv.cells (m*i.size)) e)) ok ν' st (ff z) zv.cells.toList:=oJ (nC _ _ _ _ zv.cells.toList) (by rw[i5];exact hz)
  obtain⟨hz1,hz2⟩:=sH hzr
  refine⟨au m zv.cells.toList,?_,?_,by simpa using hlb,by rw[hν]⟩
  ·rw[hν,(E.ok e ei he).cells,←hflat,←i2,List.length_replicate]
   exact kM
  ·rw[(E.ok e ei he).cells]
   exact bg.replicate m (by rw[←hz1];exact hzl) hzl hz2
 ·intro ok st ν' hν dh hw hm
  simp only[aj]
  exact⟨by rw[dh];rfl,by rw[hν]⟩
end
def yQ(P:Program)(ops:Array Oper)(o:Oper)(g:G)(R:Rd)(δ:Dl):Prop:=
 ∀g2,rN R g g2→∀(X:Cx)(ν:Nat→Nm)(a:Act)(w:World)(next:Act→World→Prop)(Q:Exit→Act→World→Prop),
  Sat P X ν g2 a w→(∀ν' a' w',Sat P X ν' (g2.app δ) a' w'→next a' w') →
  (if Region.wanted o (yielded ops a.tmps) then o.wp P a w next Q else next (a.put o.dst Go.undef) w)
theorem yQ.plain{P:Program}{ops:Array Oper}{o:Oper}{g:G}{R:Rd}{δ:Dl}(hg:o.guard=none)(h:gL P o g R δ):yQ P ops o g R δ:=by
 intro g2 ha X ν a w next Q hs hn
 rw[if_pos (by simp[Region.wanted,hg])]
 exact h g2 ha X ν a w next Q hs hn
theorem Sat.zu{P:Program}{X:Cx}{ν:Nat→Nm}{g:G}{a:Act}{w:World}(h:Sat P X ν g a w){t:Nat}{b:Bool}(ht:nth g.sl t= .d (.val (.bool b))):a.tmps[t]?=some (.bool b):=by
 have hv:=h.sl t
 rw[ht] at hv
 have hv:=fK hv
 rw[bp] at hv
 cases hq:a.tmps[t]? with
 | none=>rw[hq] at hv;cases hv
 | some v=>rw[hq] at hv;simp only[bP] at hv;rw[hv]
def vc(ops:Array Oper)(j:Nat):Option Nat:=(ops[j]?).bind (·.dst)
theorem yQ.run{P:Program}{ops:Array Oper}{o:Oper}{g:G}{R:Rd}{δ:Dl}{j t:Nat}{b:Bool}(hg:o.guard=some (j,b))(hj:vc ops j=some t)(ht:nth g.sl t= .d (.val (.bool b)))
 (h:gL P o g R δ):yQ P ops o g ⟨t::R.s,R.p⟩ δ:=by
 intro g2 ha X ν a w next Q hs hn
 have e:=(ha.s t (by simp)).trans ht
 have hb:=hs.zu e
 have hy:yielded ops a.tmps j=some b:=by
  unfold vc at hj
  simp[yielded,hj,hb]
 rw[if_pos (by simp[Region.wanted,hg,hy])]
 exact h g2 ⟨fun t ht=>ha.s t (by simp[ht]),ha.p⟩ X ν a w next Q hs hn
theorem yQ.skip{P:Program}{ops:Array Oper}{o:Oper}{g:G}{j t d:Nat}{b c:Bool}(hg:o.guard=some (j,b))(hj:vc ops j=some t)(ht:nth g.sl t= .d (.val (.bool c)))(hc:c≠b)(hd:o.dst=some d) :
 yQ P ops o g ⟨[t],[]⟩ ⟨some (d,.undef),[]⟩:=by
 intro g2 ha X ν a w next Q hs hn
 have e:=(ha.s t (by simp)).trans ht
 have hb:=hs.zu e
 have hy:yielded ops a.tmps j=some c:=by
  unfold vc at hj
  simp[yielded,hj,hb]
 rw[if_neg (by simp[Region.wanted,hg,hy,hc])]
 rw[hd]
 exact hn ν _ _ (hs.put d (by simp only[aj]))
theorem yQ.Og{P:Program}{ops:Array Oper}{o:Oper}{g:G}{j t d:Nat}{b:Bool}(hg:o.guard=some (j,b))(hj:vc ops j=some t)(ht:nth g.sl t= .undef)(hd:o.dst=some d) :
 yQ P ops o g ⟨[t],[]⟩ ⟨some (d,.undef),[]⟩:=by
 intro g2 ha X ν a w next Q hs hn
 have e:=(ha.s t (by simp)).trans ht
 have hv:=hs.sl t
 rw[e] at hv
 simp only[aj] at hv
 have hy:yielded ops a.tmps j=none:=by
  unfold vc at hj
  have:∀c,a.tmps[t]?≠some (.bool c):=by
   intro c hc
   rw[bp,hc] at hv
   cases hv
  cases hq:a.tmps[t]? with
  | none=>simp[yielded,hj,hq]
  | some v=>
    cases v<;>first
     | exact(this _ hq).elim
     | simp[yielded,hj,hq]
 rw[if_neg (by simp[Region.wanted,hg,hy])]
 rw[hd]
 exact hn ν _ _ (hs.put d (by simp only[aj]))
def N5(P:Program)(ops:Array Oper)(is:List Nat)(g:G)(K:G→Prop):Prop:=
 ∀(X:Cx)(ν:Nat→Nm)(a:Act)(w:World)(Q:Exit→Act→World→Prop),Sat P X ν g a w→(∀g' ν' a' w',K g'→Sat P X ν' g' a' w'→Q .normal a' w')→wpOps P ops Q is a w
def WO(P:Program)(ops:Array Oper)(os:List Oper)(g:G)(K:G→Prop):Prop:=
 ∀i,(∀j o,os[j]?=some o→ops[i+j]?=some o)→N5 P ops (List.range' i os.length) g K
theorem Jn{P:Program}{ops:Array Oper}{g:G}{K:G→Prop}(h:K g):WO P ops [] g K:=by
 intro i _ X ν a w Q hs hn
 simp only[List.length_nil,List.range'_zero,wpOps]
 exact hn g ν a w h hs
theorem wh{P:Program}{ops:Array Oper}{o:Oper}{os:List Oper}{g:G}{K:G→Prop}{R:Rd}{δ:Dl}(h:yQ P ops o g R δ)(hr:WO P ops os (g.app δ) K):WO P ops (o::os) g K:=by
 intro i hi X ν a w Q hs hn
 have ho:ops[i]?=some o:=hi 0 o rfl
 simp only[aq,List.range'_succ,wpOps,ho]
 have hrest:=hr (i+1) (fun j o' hj=>by have:=hi (j+1) o' (by simpa using hj);rw[show i+1+j=i+(j+1) from by omega];exact this)
 have key:=h g ⟨fun _ _=>rfl,fun _ _=>rfl⟩ X ν a w (wpOps P ops Q (List.range' (i+1) os.length)) Q hs (fun ν' a' w' hs'=>hrest X ν' a' w' Q hs' hn)
 by_cases hw:Region.wanted o (yielded ops a.tmps)=true
 ·simp only[hw,if_true] at key⊢
  exact .inl key
 ·simp only[hw,if_false] at key⊢
  exact key
theorem Hj{P:Program}{ops:Array Oper}{g:G}{K:G→Prop}(h:WO P ops ops.toList g K):N5 P ops (mf ops.size) g K:=by
 have:=h 0 (fun j o hj=>by simpa using hj)
 rw[List.range_eq_range']
 simpa using this
inductive Ex where
 | normal|exit (id:Nat)|ret
def CY(P:Program)(X:Cx)(Q:Ex→G→Prop):Exit→Act→World→Prop
 | .normal,a,w=>∃g ν,Q .normal g∧Sat P X ν g a w
 | .exit id,a,w=>∃g ν,Q (.exit id) g∧Sat P X ν g a w
 | .ret,a,w=>∃g ν,Q .ret g∧Sat P X ν g a w
 | _,_,_=>False
def Mw(X:Cx)(n0:Nat):Prop:=∀k,(X.Ko k).isSome=true→k<n0
def W(P:Program)(n0:Nat)(c:Code)(g:G)(Q:Ex→G→Prop):Prop:=
 ∀(X:Cx)(ν:Nat→Nm)(a:Act)(w:World),Mw X n0→Sat P X ν g a w→c.wp P (CY P X Q) a w
section
variable{P:Program}{n0:Nat}{g:G}{Q:Ex→G→Prop}
theorem Mv(h:Q .normal g):W P n0 .skip g Q:=fun _ ν _ _ _ hs=>wp_skip ⟨g,ν,h,hs⟩
theorem Mu{id:Nat}(h:Q (.exit id) g):W P n0 (.exit id) g Q:=fun _ ν _ _ _ hs=>wp_exit ⟨g,ν,h,hs⟩
theorem N6(h:Q .ret g):W P n0 .ret g Q:=fun _ ν _ _ _ hs=>wp_ret ⟨g,ν,h,hs⟩
def FF(K:G→Prop)(Q:Ex→G→Prop):Ex→G→Prop
 | .normal,g=>K g
 | .exit id,g=>Q (.exit id) g
 | .ret,g=>Q .ret g
theorem iz{a b:Code}(h:W P n0 a g (FF (fun g'=>W P n0 b g' Q) Q)):W P n0 (.seq a b) g Q:=by
 intro X ν ac w hp hs
 refine wp_seq (wp_mono (h X ν ac w hp hs) fun e a' w' hl=>?_)
 cases e with
 | normal=>obtain⟨g',ν',h1,h2⟩:=hl;exact h1 X ν' a' w' hp h2
 | exit id=>exact hl
 | ret=>exact hl
 | goto l=>exact hl
 | panic c=>exact hl
 | outgrown=>exact hl
theorem MD{c:Operand}{x y:Code}{b:Bool}(hc:g.ev c= .d (.val (.bool b)))(ht:b=true→W P n0 x g Q)(hf:b=false→W P n0 y g Q):W P n0 (.cond c x y) g Q:=by
 intro X ν a w hp hs
 have hv:=hs.ev c
 rw[hc] at hv
 exact wp_cond_split (fK hv) (fun h=>ht h X ν a w hp hs) (fun h=>hf h X ν a w hp hs)
def DK(id:Nat)(Q:Ex→G→Prop):Ex→G→Prop
 | .normal,g=>Q .normal g
 | .exit i,g=>if i=id then Q .normal g else Q (.exit i) g
 | .ret,g=>Q .ret g
theorem Kv{id:Nat}{c:Code}(h:W P n0 c g (DK id Q)):W P n0 (.block id c) g Q:=by
 intro X ν a w hp hs
 refine wp_block (wp_mono (h X ν a w hp hs) fun e a' w' hl=>?_)
 cases e with
 | exit i=>
   obtain⟨g',ν',h1,h2⟩:=hl
   simp only[DK] at h1
   simp only[Exit.inBlock]
   by_cases hi:i=id
   ·rw[if_pos hi] at h1⊢
    exact⟨g',ν',h1,h2⟩
   ·rw[if_neg hi] at h1⊢
    exact⟨g',ν',h1,h2⟩
 | normal=>exact hl
 | ret=>exact hl
 | goto l=>exact hl
 | panic c=>exact hl
 | outgrown=>exact hl
theorem CL{id:Nat}{ops:Array Oper}(h:WO P ops ops.toList g (Q .normal)):W P n0 (.region id ops false) g Q:=by
 intro X ν a w hp hs
 exact wp_region (Hj h X ν a w _ hs fun g' ν' a' w' hk hs'=>⟨g',ν',hk,hs'⟩)
def kG(P:Program)(n0:Nat)(g g':G):Prop:=∀(X:Cx)(ν:Nat→Nm)(a:Act)(w:World),Mw X n0→Sat P X ν g a w→∃ν',Sat P X ν' g' a w
theorem kG.refl(g:G):kG P n0 g g:=fun _ ν _ _ _ h=>⟨ν,h⟩
theorem kG.trans{g1 g2 g3:G}(h:kG P n0 g1 g2)(h':kG P n0 g2 g3):kG P n0 g1 g3:=fun X ν a w hp hs=>
 let ⟨ν',hs'⟩:=h X ν a w hp hs;h' X ν' a w hp hs'
theorem Et{c:Code}{g':G}(hw:kG P n0 g g')(h:W P n0 c g' Q):W P n0 c g Q:=fun X ν a w hp hs=>
 let ⟨ν',hs'⟩:=hw X ν a w hp hs;h X ν' a w hp hs'
def FO{α:Type}(P:Program)(n0:Nat)(T:α→G)(μ:α→Nat)(x:α)(Q:Ex→G→Prop):Ex→G→Prop
 | .normal,g=>∃y,μ y < μ x∧kG P n0 g (T y)
 | .exit id,g=>Q (.exit id) g
 | .ret,g=>Q .ret g
open Classical in
theorem Nf{α:Type}{c:Code}(T:α→G)(μ:α→Nat)(x0:α)(h0:kG P n0 g (T x0))(round:∀x,W P n0 c (T x) (FO P n0 T μ x Q)):W P n0 (.loop c) g Q:=by
 intro X ν a w hp hs
 let S:Act→World→Nat→Prop:=fun a w n=>∃x ν,μ x=n∧Sat P X ν (T x) a w
 have hleast:∀a w,(∃n,S a w n)→∃n,S a w n∧∀m,S a w m→n≤m:=by
  intro a w ⟨n,hn⟩
  induction n using Nat.strongRecOn with
  | _ n ih=>
    by_cases hm:∃m,S a w m∧m<n
    ·obtain⟨m,h1,h2⟩:=hm
     exact ih m h2 h1
    ·refine⟨n,hn,fun m h1=>?_⟩
     rcases cI m n with h2|h2
     ·exact(hm ⟨m,h1,h2⟩).elim
     ·exact h2
 let M:Act→World→Nat:=fun a w=>if h:∃n,S a w n then kh (hleast a w h) else 0
 have hM:∀a w,(∃n,S a w n)→S a w (M a w)∧∀m,S a w m→M a w≤m:=by
  intro a w h
  have:M a w=kh (hleast a w h):=dif_pos h
  rw[this]
  exact Classical.choose_spec (hleast a w h)
 obtain⟨ν',hs'⟩:=h0 X ν a w hp hs
 refine wp_loop (fun a w=>∃n,S a w n) M ⟨_,x0,ν',rfl,hs'⟩ fun a w hI=>?_
 obtain⟨⟨x,ν,hx,hsx⟩,hmin⟩:=hM a w hI
 refine wp_mono (round x X ν a w hp hsx) fun e a' w' hl=>?_
 cases e with
 | normal=>
   obtain⟨g',ν',⟨y,hy,hwk⟩,h2⟩:=hl
   obtain⟨ν2,h3⟩:=hwk X ν' a' w' hp h2
   have hS:S a' w' (μ y):=⟨y,ν2,rfl,h3⟩
   refine⟨⟨_,hS⟩,?_⟩
   have:=(hM a' w' ⟨_,hS⟩).2 _ hS
   omega
 | exit id=>exact hl
 | ret=>exact hl
 | goto l=>exact hl
 | panic c=>exact hl
 | outgrown=>exact hl
end
def look:List Nat→Nat→Nat
 | [],_=>0
 | a::_,0=>a
 | _::as,n+1=>look as n
mutual
def PV.gZ(m:List Nat):PV→PV
 | .any=>.any
 | .undef=>.undef
 | .aV=>.aV
 | .d x=>.d x
 | .agg cs=>.agg (kR m cs)
 | .gN cs=>.gN (kR m cs)
 | .ptr k off=>.ptr (look m k) off
 | .acc k=>.acc (look m k)
 | .dv k i off sz=>.dv (look m k) i off sz
 | .di xs i off=>.di xs i off
 | .fn f cap=>.fn f (kR m cap)
def kR(m:List Nat):List PV→List PV
 | []=>[]
 | p::ps=>p.gZ m::kR m ps
end
mutual
def PV.lt(n:Nat):PV→Bool
 | .agg cs=>oo n cs
 | .gN cs=>oo n cs
 | .ptr k _=>decide (k<n)
 | .acc k=>decide (k<n)
 | .dv k _ _ _=>decide (k<n)
 | .fn _ cap=>oo n cap
 | _=>true
def oo(n:Nat):List PV→Bool
 | []=>true
 | p::ps=>p.lt n&&oo n ps
end
mutual
def T.gZ(m:List Nat):T→T
 | .leaf d=>.leaf d
 | .ref j=>.ref (look m j)
 | .own e xs=>.own e (fZ m xs)
def gH(m:List Nat):List T→List T
 | []=>[]
 | t::ts=>t.gZ m::gH m ts
def fZ(m:List Nat):List (List T)→List (List T)
 | []=>[]
 | x::xs=>gH m x::fZ m xs
end
mutual
def T.lt(n:Nat):T→Bool
 | .leaf _=>true
 | .ref j=>decide (j<n)
 | .own _ xs=>yl n xs
def wv(n:Nat):List T→Bool
 | []=>true
 | t::ts=>t.lt n&&wv n ts
def yl(n:Nat):List (List T)→Bool
 | []=>true
 | x::xs=>wv n x&&yl n xs
end
def En.gZ(m:List Nat):En→En
 | .box cs=>.box (kR m cs)
 | .acc e xs=>.acc e xs
 | .cY e xs=>.cY e (fZ m xs)
 | .map yO=>.map yO
 | .dead=>.dead
def En.lt(n:Nat):En→Bool
 | .box cs=>oo n cs
 | .cY _ xs=>yl n xs
 | _=>true
theorem En.kK(m:List Nat)(e:En):(e.gZ m).live=e.live:=by cases e<;>rfl
section
variable{w:World}{ok:Nat→Prop}{ν ν':Nat→Nm}{st st':Nat→Option En}{m:List Nat}
mutual
theorem aj.e9(h:∀i,(st' i).isSome=true→ν (look m i)=ν' i∧(st (look m i)).isSome=true):∀(p:PV)(v:Value),aj w ok ν' st' p v→aj w ok ν st (p.gZ m) v
 | .any,_,_=>by simp[PV.gZ,aj]
 | .undef,_,hv=>by simpa[PV.gZ,aj] using hv
 | .aV,_,hv=>by simpa[PV.gZ,aj] using hv
 | .d x,_,hv=>by simpa[PV.gZ,aj] using hv
 | .agg cs,v,hv=>by
   simp only[PV.gZ,aj] at hv⊢
   obtain⟨vs,e,hv⟩:=hv
   exact⟨vs,e,ai.e9 h cs vs hv⟩
 | .gN cs,v,hv=>by
   simp only[PV.gZ,aj] at hv⊢
   obtain⟨vs,e,hv⟩:=hv
   exact⟨vs,e,ai.e9 h cs vs hv⟩
 | .ptr k off,v,hv=>by
   simp only[PV.gZ,aj] at hv⊢
   rw[(h k hv.1).1]
   exact⟨(h k hv.1).2,hv.2⟩
 | .acc k,v,hv=>by
   simp only[PV.gZ,aj] at hv⊢
   rw[(h k hv.1).1]
   exact⟨(h k hv.1).2,hv.2⟩
 | .dv k i off sz,v,hv=>by
   simp only[PV.gZ,aj] at hv⊢
   rw[(h k hv.1).1]
   exact⟨(h k hv.1).2,hv.2⟩
 | .di xs i off,v,hv=>by simpa[PV.gZ,aj] using hv
 | .fn f cap,v,hv=>by
   simp only[PV.gZ,aj] at hv⊢
   obtain⟨vs,e,hv⟩:=hv
   exact⟨vs,e,ai.e9 h cap vs hv⟩
theorem ai.e9(h:∀i,(st' i).isSome=true→ν (look m i)=ν' i∧(st (look m i)).isSome=true):∀(ps:List PV)(vs:List Value),ai w ok ν' st' ps vs→ai w ok ν st (kR m ps) vs
 | [],[],_=>by simp[kR,ai]
 | [],_::_,hv=>by simp[ai] at hv
 | _::_,[],hv=>by simp[ai] at hv
 | p::ps,v::vs,hv=>by
   simp only[kR,ai] at hv⊢
   exact⟨aj.e9 h p v hv.1,ai.e9 h ps vs hv.2⟩
end
mutual
theorem aj.gF{n:Nat}(h:∀i,i<n→(st (look m i)).isSome=true→ν (look m i)=ν' i∧(st' i).isSome=true):∀(p:PV)(v:Value),p.lt n=true→aj w ok ν st (p.gZ m) v→aj w ok ν' st' p v
 | .any,_,_,_=>by simp[aj]
 | .undef,_,_,hv=>by simpa[PV.gZ,aj] using hv
 | .aV,_,_,hv=>by simpa[PV.gZ,aj] using hv
 | .d x,_,_,hv=>by simpa[PV.gZ,aj] using hv
 | .agg cs,v,hl,hv=>by
   simp only[PV.gZ,aj,PV.lt] at hv hl⊢
   obtain⟨vs,e,hv⟩:=hv
   exact⟨vs,e,ai.gF h cs vs hl hv⟩
 | .gN cs,v,hl,hv=>by
   simp only[PV.gZ,aj,PV.lt] at hv hl⊢
   obtain⟨vs,e,hv⟩:=hv
   exact⟨vs,e,ai.gF h cs vs hl hv⟩
 | .ptr k off,v,hl,hv=>by
   simp only[PV.gZ,aj,PV.lt,decide_eq_true_eq] at hv hl⊢
   rw[← (h k hl hv.1).1]
   exact⟨(h k hl hv.1).2,hv.2⟩
 | .acc k,v,hl,hv=>by
   simp only[PV.gZ,aj,PV.lt,decide_eq_true_eq] at hv hl⊢
   rw[← (h k hl hv.1).1]
   exact⟨(h k hl hv.1).2,hv.2⟩
 | .dv k i off sz,v,hl,hv=>by
   simp only[PV.gZ,aj,PV.lt,decide_eq_true_eq] at hv hl⊢
   rw[← (h k hl hv.1).1]
   exact⟨(h k hl hv.1).2,hv.2⟩
 | .di xs i off,v,_,hv=>by simpa[PV.gZ,aj] using hv
 | .fn f cap,v,hl,hv=>by
   simp only[PV.gZ,aj,PV.lt] at hv hl⊢
   obtain⟨vs,e,hv⟩:=hv
   exact⟨vs,e,ai.gF h cap vs hl hv⟩
theorem ai.gF{n:Nat}(h:∀i,i<n→(st (look m i)).isSome=true→ν (look m i)=ν' i∧(st' i).isSome=true):∀(ps:List PV)(vs:List Value),oo n ps=true→ai w ok ν st (kR m ps) vs→ai w ok ν' st' ps vs
 | [],[],_,_=>by simp[ai]
 | [],_::_,_,hv=>by simp[kR,ai] at hv
 | _::_,[],_,hv=>by simp[kR,ai] at hv
 | p::ps,v::vs,hl,hv=>by
   simp only[kR,ai,oo,ae] at hv hl⊢
   exact⟨aj.gF h p v hl.1 hv.1,ai.gF h ps vs hl.2 hv.2⟩
end
theorem pc(m:List Nat):∀(xs:List (List T)),(fZ m xs).length=xs.length
 | []=>rfl
 | x::xs=>by simp only[fZ,aq,pc m xs]
variable{P:Program}
mutual
theorem fP.e9(h:∀i,(st' i).isSome=true→ν (look m i)=ν' i∧(st (look m i)).isSome=true):∀(t:T)(v:Value)(F:List Nat),fP P w ok ν' st' t v F→fP P w ok ν st (t.gZ m) v F
 | .leaf d,v,F,hv=>by simpa only[fP,T.gZ] using hv
 | .ref j,v,F,hv=>by
   simp only[fP,T.gZ] at hv⊢
   rw[(h j hv.1).1]
   exact⟨(h j hv.1).2,hv.2⟩
 | .own e xs,v,F,hv=>by
   simp only[fP,T.gZ,pc] at hv⊢
   obtain⟨us,F1,h1,h2,h3,h4⟩:=hv
   exact⟨us,F1,h1,h2,aU.e9 h xs us F1 h3,h4⟩
theorem aE.e9(h:∀i,(st' i).isSome=true→ν (look m i)=ν' i∧(st (look m i)).isSome=true):∀(ts:List T)(vs:List Value)(F:List Nat),aE P w ok ν' st' ts vs F→aE P w ok ν st (gH m ts) vs F
 | [],[],F,hv=>by simpa only[aE,gH] using hv
 | [],_::_,F,hv=>by simp[aE] at hv
 | _::_,[],F,hv=>by simp[aE] at hv
 | t::ts,v::vs,F,hv=>by
   simp only[aE,gH] at hv⊢
   obtain⟨F1,F2,h1,h2,h3⟩:=hv
   exact⟨F1,F2,fP.e9 h t v F1 h1,aE.e9 h ts vs F2 h2,h3⟩
theorem aU.e9(h:∀i,(st' i).isSome=true→ν (look m i)=ν' i∧(st (look m i)).isSome=true):∀(xs:List (List T))(us:List (List Value))(F:List Nat),aU P w ok ν' st' xs us F→aU P w ok ν st (fZ m xs) us F
 | [],[],F,hv=>by simpa only[aU,fZ] using hv
 | [],_::_,F,hv=>by simp[aU] at hv
 | _::_,[],F,hv=>by simp[aU] at hv
 | x::xs,u::us,F,hv=>by
   simp only[aU,fZ] at hv⊢
   obtain⟨F1,F2,h1,h2,h3⟩:=hv
   exact⟨F1,F2,aE.e9 h x u F1 h1,aU.e9 h xs us F2 h2,h3⟩
end
mutual
theorem fP.gF{n:Nat}(h:∀i,i<n→(st (look m i)).isSome=true→ν (look m i)=ν' i∧(st' i).isSome=true):∀(t:T)(v:Value)(F:List Nat),t.lt n=true→fP P w ok ν st (t.gZ m) v F→fP P w ok ν' st' t v F
 | .leaf d,v,F,_,hv=>by simpa only[fP,T.gZ] using hv
 | .ref j,v,F,hl,hv=>by
   simp only[fP,T.gZ,T.lt] at hl hv⊢
   have:=h j (of_decide_eq_true hl) hv.1
   rw[←this.1]
   exact⟨this.2,hv.2⟩
 | .own e xs,v,F,hl,hv=>by
   simp only[fP,T.gZ,T.lt,pc] at hl hv⊢
   obtain⟨us,F1,h1,h2,h3,h4⟩:=hv
   exact⟨us,F1,h1,h2,aU.gF h xs us F1 hl h3,h4⟩
theorem aE.gF{n:Nat}(h:∀i,i<n→(st (look m i)).isSome=true→ν (look m i)=ν' i∧(st' i).isSome=true):∀(ts:List T)(vs:List Value)(F:List Nat),wv n ts=true→aE P w ok ν st (gH m ts) vs F→aE P w ok ν' st' ts vs F
 | [],[],F,_,hv=>by simpa only[aE,gH] using hv
 | [],_::_,F,_,hv=>by simp[aE,gH] at hv
 | _::_,[],F,_,hv=>by simp[aE,gH] at hv
 | t::ts,v::vs,F,hl,hv=>by
   simp only[aE,gH,wv,ae] at hl hv⊢
   obtain⟨F1,F2,h1,h2,h3⟩:=hv
   exact⟨F1,F2,fP.gF h t v F1 hl.1 h1,aE.gF h ts vs F2 hl.2 h2,h3⟩
theorem aU.gF{n:Nat}(h:∀i,i<n→(st (look m i)).isSome=true→ν (look m i)=ν' i∧(st' i).isSome=true):∀(xs:List (List T))(us:List (List Value))(F:List Nat),yl n xs=true→aU P w ok ν st (fZ m xs) us F→aU P w ok ν' st' xs us F
 | [],[],F,_,hv=>by simpa only[aU,fZ] using hv
 | [],_::_,F,_,hv=>by simp[aU,fZ] at hv
 | _::_,[],F,_,hv=>by simp[aU,fZ] at hv
 | x::xs,u::us,F,hl,hv=>by
   simp only[aU,fZ,yl,ae] at hl hv⊢
   obtain⟨F1,F2,h1,h2,h3⟩:=hv
   exact⟨F1,F2,aE.gF h x u F1 hl.1 h1,aU.gF h xs us F2 hl.2 h2,h3⟩
end
theorem gk.e9(h:∀i,(st' i).isSome=true→ν (look m i)=ν' i∧(st (look m i)).isSome=true){i:Nat}(hi:(st' i).isSome=true){e:En}(he:gk P w ok ν' st' i e):gk P w ok ν st (look m i) (e.gZ m):=by
 have hn:=(h i hi).1
 cases e with
 | dead=>trivial
 | box cs=>
   obtain⟨b,vs,T,h1,h2,h3,h4⟩:=he
   simp only[gk,En.gZ,hn]
   exact⟨b,vs,T,h1,h2,ai.e9 h cs vs h3,h4⟩
 | acc t xs=>
   simp only[gk,En.gZ,hn] at he⊢
   exact he
 | cY t xs=>
   simp only[gk,En.gZ,hn] at he⊢
   exact⟨fP.e9 h _ _ _ he.1,he.2⟩
 | map yO=>
   simp only[gk,En.gZ,hn] at he⊢
   exact he
theorem gk.gF{n:Nat}(h:∀i,i<n→(st (look m i)).isSome=true→ν (look m i)=ν' i∧(st' i).isSome=true){i:Nat}(hi:i<n){e:En}(hs:(st (look m i)).isSome=true)(hl:e.lt n=true)(he:gk P w ok ν st (look m i) (e.gZ m)):gk P w ok ν' st' i e:=by
 have hn:=(h i hi hs).1
 cases e with
 | dead=>trivial
 | box cs=>
   obtain⟨b,vs,T,h1,h2,h3,h4⟩:=he
   rw[hn] at h1 h4
   exact⟨b,vs,T,h1,h2,ai.gF h cs vs hl h3,h4⟩
 | acc t xs=>
   simp only[gk,En.gZ,hn] at he⊢
   exact he
 | cY t xs=>
   simp only[gk,En.gZ,hn] at he⊢
   exact⟨fP.gF h (.own t xs) _ _ hl he.1,he.2⟩
 | map yO=>
   simp only[gk,En.gZ,hn] at he⊢
   exact he
end
def Fits(g:G)(m:List Nat)(cE:List (Option En)):Prop:=∀i,i<cE.length→∃e,bR cE i=some e∧g.at (look m i)=some (e.gZ m)∧e.lt cE.length=true
def Gk(P:Program)(X:Cx)(ν:Nat→Nm)(res:PV)(st:List (Option En))(v:Value)(w:World):Prop:=Sat P X ν ⟨[res],st⟩ ⟨#[v],[]⟩ w
def B5 (P : Program) (f : FuncId) : Prop := ∃ fn, P.funcs[f]? = some fn ∧ fn.body.isNone = false ∧ (fn.name == "runtime.NumGoroutine") = false
def C(P:Program)(f:FuncId)(args:List PV)(cE:List (Option En))(R:PV→List (Option En)→Prop):Prop:=
 B5 P f∧∀(X:Cx)(vs:List Value),X.Ko=bR cE→X.O0=Own X.ν0 X.Ko→Sat P X X.ν0 ⟨args,cE⟩ ⟨⟨vs⟩,[]⟩ X.w0 →
  Calls P f ⟨vs⟩ X.w0 (fun e w'=>∃v res st' ν',e= .returned v∧R res st'∧Gk P X ν' res st' v w')
theorem C.mono{P:Program}{f:FuncId}{args:List PV}{cE:List (Option En)}{R R':PV→List (Option En)→Prop}(h:C P f args cE R)(hr:∀r s,R r s→R' r s):C P f args cE R':=
 ⟨h.1,fun X vs h1 h2 h3=>(h.2 X vs h1 h2 h3).mono fun _ _ ⟨v,res,st',ν',k1,k2,k3⟩=>⟨v,res,st',ν',k1,hr _ _ k2,k3⟩⟩
def bw(res:PV)(st:List (Option En)):PV→List (Option En)→Prop:=fun r s=>r=res∧s=st
theorem vR:∀{m:List Nat}{i:Nat},i<m.length→look m i∈m
 | [],_,h=>by simp at h
 | a::as,0,_=>by simp[look]
 | a::as,n+1,h=>by simp only[look];exact List.mem_cons_of_mem _ (vR (by simpa using h))
theorem xN:∀{m:List Nat},m.Nodup→∀{i j:Nat},i<m.length→j<m.length→look m i=look m j→i=j
 | [],_,_,_,h,_,_=>by simp at h
 | a::as,hn,0,0,_,_,_=>rfl
 | a::as,hn,0,j+1,_,hj,h=>by
   simp only[look] at h
   have:=vR (m:=as) (i:=j) (by simpa using hj)
   rw[←h] at this
   exact((gP.1 hn).1 this).elim
 | a::as,hn,i+1,0,hi,_,h=>by
   simp only[look] at h
   have:=vR (m:=as) (i:=i) (by simpa using hi)
   rw[h] at this
   exact((gP.1 hn).1 this).elim
 | a::as,hn,i+1,j+1,hi,hj,h=>by
   simp only[look] at h
   rw[xN (gP.1 hn).2 (by simpa using hi) (by simpa using hj) h]
theorem wR:∀{l:List (Option En)}{i:Nat},l.length≤i→bR l i=none
 | [],i,_=>by cases i<;>rfl
 | _::_,0,h=>by simp at h
 | _::as,n+1,h=>by simp only[bR];exact wR (by simpa using h)
theorem jD{l:List (Option En)}{i:Nat}(h:(bR l i).isSome=true):i<l.length:=by
 rcases cI i l.length with h' | h'
 ·exact h'
 ·rw[wR h'] at h;cases h
theorem Sat.enter{P:Program}{X:Cx}{ν:Nat→Nm}{g:G}{a:Act}{w:World}(h:Sat P X ν g a w)(m:List Nat)(bA:List PV)(cE:List (Option En))(vs:List Value)(hm:m.Nodup)(hml:cE.length≤m.length)
 (hf:Fits g m cE) (jN:ai w (bm X ν g.at) ν g.at (kR m bA) vs) (kf:oo cE.length bA=true) (Xc:Cx) (h0:Xc.w0=w) (hν:∀i,i<cE.length→Xc.ν0 i=ν (look m i)) (dh:Xc.Ko=bR cE) (hO:Xc.O0=Own Xc.ν0 Xc.Ko)
 (hZ:Xc.Z=fun b=>X.Z b∨(Own ν g.at b∧¬Own Xc.ν0 (bR cE) b)) :
 Sat P Xc Xc.ν0 ⟨bA,cE⟩ ⟨⟨vs⟩,[]⟩ w:=by
 have fX:∀i,(⟨bA,cE⟩:G).at i=bR cE i:=fun _=>rfl
 have nH:∀i,i<cE.length→(g.at (look m i)).isSome=true→ν (look m i)=Xc.ν0 i∧(bR cE i).isSome=true:=by
  intro i hi _
  obtain⟨e,h1,_⟩:=hf i hi
  exact⟨(hν i hi).symm,by rw[h1];rfl⟩
 have hownsub:∀b,Own Xc.ν0 (bR cE) b→Own ν g.at b:=by
  rintro b ⟨i,e,h1,h2,h3⟩
  have hi:=jD (by rw[h1];rfl)
  obtain⟨e',k1,k2,_⟩:=hf i hi
  rw[h1] at k1
  obtain rfl:=Option.some.inj k1
  exact⟨look m i,_,k2,by rw[En.kK];exact h2,by rw[←hν i hi];exact h3⟩
 have hfree:∀b,bm X ν g.at b→b<w.heap.size→bm Xc Xc.ν0 (bR cE) b∧w.heap[b]?=w.heap[b]?:=by
  rintro b ⟨h1,h2⟩ _
  refine⟨⟨fun ho=>h1 (hownsub b ho),?_⟩,rfl⟩
  rw[hZ]
  rintro(h3|h3)
  ·exact h2 h3
  ·exact h1 h3.1
 have hargs':ai w (bm Xc Xc.ν0 (bR cE)) Xc.ν0 (bR cE) bA vs:=
  ai.frame hfree (ar _) (gY.refl _ _) _ _ (ai.gF (n:=cE.length) nH bA vs kf jN)
 refine⟨by simp[hargs'.length],fun t=>?_,fun i e he=>?_,fun i j e e' b h1 h2 h3 h4 h5 h6=>?_,fun b hb=>?_,fun i hi=>?_,fun i hi=>?_,⟨fun b hb=>?_,h.kt h0 fun b hb=>hownsub b (by rw[hO,dh] at hb;exact hb)⟩,?_,rfl⟩
 ·have key:∀(ps:List PV)(us:List Value)(t:Nat),ai w (bm Xc Xc.ν0 (bR cE)) Xc.ν0 (bR cE) ps us→aj w (bm Xc Xc.ν0 (bR cE)) Xc.ν0 (bR cE) (nth ps t) (us.getD t Go.undef):=by
   intro ps
   induction ps with
   | nil=>intro us t _;cases t<;>simp[nth,aj]
   | cons p ps ih=>
     intro us t hr
     cases us with
     | nil=>simp[ai] at hr
     | cons u us=>
       simp only[ai] at hr
       cases t with
       | zero=>simpa[nth] using hr.1
       | succ t=>simpa[nth] using ih us t hr.2
  have:=key bA vs t hargs'
  show aj w (bm Xc Xc.ν0 (bR cE)) Xc.ν0 (bR cE) (nth bA t) ((⟨vs⟩:Array Value).getD t Go.undef)
  simpa[bp] using this
 ·rw[fX] at he
  have hi:=jD (l:=cE) (i:=i) (by rw[he];rfl)
  obtain⟨e',k1,k2,k3⟩:=hf i hi
  rw[he] at k1
  obtain rfl:=Option.some.inj k1
  have h1:=h.en _ _ k2
  have h2:=gk.gF (n:=cE.length) nH hi (by rw[k2];rfl) k3 h1
  exact h2.frame hfree (ar _) (gY.refl _ _) rfl (fun _ _ _=>rfl)
 ·rw[fX] at h1 h2
  have hi:=jD (l:=cE) (i:=i) (by rw[h1];rfl)
  have hj:=jD (l:=cE) (i:=j) (by rw[h2];rfl)
  obtain⟨e1,k1,k2,_⟩:=hf i hi
  obtain⟨e2,m1,m2,_⟩:=hf j hj
  rw[h1] at k1
  rw[h2] at m1
  obtain rfl:=Option.some.inj k1
  obtain rfl:=Option.some.inj m1
  exact xN hm (by omega) (by omega) (h.inj _ _ _ _ b k2 m2 (by rw[En.kK];exact h3) (by rw[En.kK];exact h4) (by rw[←hν i hi];exact h5) (by rw[←hν j hj];exact h6))
 ·left
  rw[hO,dh]
  exact hb
 ·rw[fX] at hi
  have hi':=jD hi
  obtain⟨e1,k1,k2,_⟩:=hf i hi'
  rw[hν i hi']
  exact h.nu _ (by rw[k2];rfl)
 ·rw[dh] at hi
  exact⟨rfl,hi⟩
 ·rw[h0,hO,dh]
  rw[hZ] at hb
  rcases hb with h1|h1
  ·refine⟨eh (h.wx b h1).1 h.qp.size,fun ho=>h.BK (hownsub b ho) h1⟩
  ·exact⟨h.lt h1.1,h1.2⟩
 ·rw[h0]
  exact nv.refl _ w
def gi(M:List Nat):List Nat→List (Option En)→List (Nat×En)
 | k::ks,some e::es=>(k,e.gZ M)::gi M ks es
 | _::ks,none::es=>gi M ks es
 | _,_=>[]
theorem pL(M:List Nat):∀(m:List Nat)(st':List (Option En))(st:List (Option En))(k:Nat),(∀i,i<st'.length→look m i=k→i<m.length→bR st' i=none)→bR (pU st (gi M m st')) k=bR st k
 | [],_,st,k,_=>by simp[gi,pU]
 | _::_,[],st,k,_=>by simp[gi,pU]
 | j::ks,none::es,st,k,h=>by
   simp only[gi]
   exact pL M ks es st k fun i hi hl hm=>h (i+1) (by simpa using hi) hl (by simpa using hm)
 | j::ks,some e::es,st,k,h=>by
   simp only[gi,pU]
   rw[pL M ks es _ k fun i hi hl hm=>h (i+1) (by simpa using hi) hl (by simpa using hm),dp]
   have:k≠j:=fun hk=>by
    have:=h 0 (by simp) hk.symm (by simp)
    simp[bR] at this
   rw[if_neg this]
theorem J6(M:List Nat):∀(m:List Nat)(st':List (Option En))(st:List (Option En))(i:Nat)(e:En),m.Nodup→st'.length≤m.length→bR st' i=some e→bR (pU st (gi M m st')) (look m i)=some (e.gZ M)
 | _,[],st,i,e,_,_,he=>by cases i<;>simp[bR] at he
 | [],_::_,st,i,e,_,hl,_=>by simp at hl
 | j::ks,x::es,st,0,e,hn,hl,he=>by
   simp only[bR] at he
   subst he
   simp only[gi,pU,look]
   rw[pL M ks es _ j,dp,if_pos rfl]
   intro i hi hli him
   have:=vR him
   rw[hli] at this
   exact((gP.1 hn).1 this).elim
 | j::ks,x::es,st,i+1,e,hn,hl,he=>by
   simp only[bR] at he
   have ih:=fun st=>J6 M ks es st i e (gP.1 hn).2 (by simpa using hl) he
   cases x with
   | none=>simp only[gi,look];exact ih st
   | some x=>simp only[gi,pU,look];exact ih _
open Classical in
theorem Sat.leave{P:Program}{X:Cx}{ν:Nat→Nm}{g:G}{a:Act}{w:World}(h:Sat P X ν g a w)(m:List Nat)(cE st':List (Option En))(hm:m.Nodup)(hml:st'.length≤m.length)(hcs:cE.length≤st'.length)
 (hf:Fits g m cE) (hnew:∀i,cE.length≤i→i<st'.length→g.at (look m i)=none) (Xc:Cx) (h0:Xc.w0=w) (hν:∀i,i<cE.length→Xc.ν0 i=ν (look m i)) (dh:Xc.Ko=bR cE) (hO:Xc.O0=Own Xc.ν0 Xc.Ko)
 (hZ:Xc.Z=fun b=>X.Z b∨(Own ν g.at b∧¬Own Xc.ν0 (bR cE) b)) {ν':Nat→Nm} {res:PV} {v:Value} {w':World} (hc:Gk P Xc ν' res st' v w') (d:Nat) :
 ∃ν'',Sat P X ν'' ⟨gy g.sl d (res.gZ m),pU g.st (gi m m st')⟩ (a.put (some d) v) w':=by
 let ν'':Nat→Nm:=fun k=>if hx:∃i,look m i=k∧(bR st' i).isSome=true then ν' (kh hx) else ν k
 have hatc:∀i,(⟨[res],st'⟩:G).at i=bR st' i:=fun _=>rfl
 have cZ:∀i,(bR st' i).isSome=true→i<m.length:=fun i hi=>eh (jD hi) hml
 have hν1:∀i,(bR st' i).isSome=true→ν'' (look m i)=ν' i:=by
  intro i hi
  have hx:∃j,look m j=look m i∧(bR st' j).isSome=true:=⟨i,rfl,hi⟩
  have e:ν'' (look m i)=ν' (kh hx):=dif_pos hx
  have h1:=Classical.choose_spec hx
  rw[e,xN hm (cZ _ h1.2) (cZ i hi) h1.1]
 have hν2:∀k,(¬ ∃i,look m i=k∧(bR st' i).isSome=true)→ν'' k=ν k:=fun k hk=>dif_neg hk
 have hat1:∀i e,bR st' i=some e→bR (pU g.st (gi m m st')) (look m i)=some (e.gZ m):=fun i e he=>J6 m m st' g.st i e hm hml he
 have hat2:∀k,(¬ ∃i,look m i=k∧(bR st' i).isSome=true)→bR (pU g.st (gi m m st')) k=g.at k:=by
  intro k hk
  refine pL m m st' g.st k fun i hi hl _=>?_
  cases hq:bR st' i with
  | none=>rfl
  | some e=>exact(hk ⟨i,hl,by rw[hq];rfl⟩).elim
 have hpar:∀i,i<cE.length→(ν' i).v=(ν (look m i)).v∧(bR st' i).isSome=true:=by
  intro i hi
  obtain⟨e,h1,_⟩:=hf i hi
  obtain⟨k1,k2⟩:=hc.par i (by rw[dh,h1];rfl)
  exact⟨by rw[k1,hν i hi],k2⟩
 have hownc:∀b,Own Xc.ν0 (bR cE) b→Own ν g.at b:=by
  rintro b ⟨i,e,h1,h2,h3⟩
  have hi:=jD (by rw[h1];rfl)
  obtain⟨e',k1,k2,_⟩:=hf i hi
  rw[h1] at k1
  obtain rfl:=Option.some.inj k1
  exact⟨look m i,_,k2,by rw[En.kK];exact h2,by rw[←hν i hi];exact h3⟩
 have lF:nv (Own Xc.ν0 (bR cE)) w w':=by
  have:=hc.qp
  rw[hO,dh,h0] at this
  exact this
 have hm':gY g.at (fun k=>bR (pU g.st (gi m m st')) k) ν ν'':=by
  intro k hk
  by_cases hx:∃i,look m i=k∧(bR st' i).isSome=true
  ·obtain⟨i,hi,hs⟩:=hx
   have hic:i<cE.length:=by
    rcases cI i cE.length with h1|h1
    ·exact h1
    ·have:=hnew i h1 (jD hs)
     rw[hi] at this
     rw[this] at hk;cases hk
   refine⟨?_,?_⟩
   ·rw[←hi,hν1 i hs]
    exact(hpar i hic).1
   ·obtain⟨e,he⟩:=b8.1 hs
    rw[←hi]
    show(bR (pU g.st (gi m m st')) (look m i)).isSome=true
    rw[hat1 i e he];rfl
  ·refine⟨by rw[hν2 k hx],?_⟩
   show(bR (pU g.st (gi m m st')) k).isSome=true
   rw[hat2 k hx];exact hk
 have hother:∀k e b,(¬ ∃i,look m i=k∧(bR st' i).isSome=true)→g.at k=some e→e.live=true→(ν k).has b→¬Own Xc.ν0 (bR cE) b:=by
  rintro k e b hk h1 h2 h3 ⟨i,e',k1,k2,k3⟩
  have hi:=jD (l:=cE) (i:=i) (by rw[k1];rfl)
  obtain⟨e'',m1,m2,_⟩:=hf i hi
  rw[k1] at m1
  obtain rfl:=Option.some.inj m1
  have:=h.inj k (look m i) e _ b h1 m2 h2 (by rw[En.kK];exact k2) h3 (by rw[←hν i hi];exact k3)
  exact hk ⟨i,this.symm,(hpar i hi).2⟩
 have hown2:∀b,Own ν'' (fun k=>bR (pU g.st (gi m m st')) k) b→Own ν' (bR st') b∨(Own ν g.at b∧¬Own Xc.ν0 (bR cE) b):=by
  rintro b ⟨k,e,h1,h2,h3⟩
  have h1:bR (pU g.st (gi m m st')) k=some e:=h1
  by_cases hx:∃i,look m i=k∧(bR st' i).isSome=true
  ·obtain⟨i,hi,hs⟩:=hx
   obtain⟨e',he'⟩:=b8.1 hs
   left
   have:=hat1 i e' he'
   rw[hi] at this
   rw[this] at h1
   obtain rfl:=Option.some.inj h1
   exact⟨i,e',he',by rw[←En.kK m];exact h2,by rw[←hν1 i hs,hi];exact h3⟩
  ·rw[hat2 k hx] at h1
   rw[hν2 k hx] at h3
   exact .inr ⟨⟨k,e,h1,h2,h3⟩,hother k e b hx h1 h2 h3⟩
 have hfree2:∀b,bm Xc ν' (bR st') b→bm X ν'' (fun k=>bR (pU g.st (gi m m st')) k) b:=by
  rintro b ⟨h1,h2⟩
  rw[hZ] at h2
  refine⟨fun ho=>?_,fun hz=>h2 (.inl hz)⟩
  rcases hown2 b ho with h3|h3
  ·exact h1 h3
  ·exact h2 (.inr h3)
 have hrenout:∀i,(bR st' i).isSome=true→ν'' (look m i)=ν' i∧((fun k=>bR (pU g.st (gi m m st')) k) (look m i)).isSome=true:=by
  intro i hi
  obtain⟨e,he⟩:=b8.1 hi
  exact⟨hν1 i hi,by show(bR _ _).isSome=true;rw[hat1 i e he];rfl⟩
 have hres:aj w' (bm X ν'' (fun k=>bR (pU g.st (gi m m st')) k)) ν'' (fun k=>bR (pU g.st (gi m m st')) k) (res.gZ m) v:=by
  have h1:aj w' (bm Xc ν' (bR st')) ν' (bR st') res v:=by
   exact hc.sl 0
  exact aj.e9 hrenout _ _ (aj.frame (fun b hb _=>⟨hfree2 b hb,rfl⟩) (ar _) (gY.refl _ _) _ _ h1)
 refine⟨ν'',h.JL (g':=⟨gy g.sl d (res.gZ m),pU g.st (gi m m st')⟩) (Own Xc.ν0 (bR cE)) lF hownc hm' ?_ ?_ ?_ ?_ ?_ ?_ rfl⟩
 ·intro k e he
  by_cases hx:∃i,look m i=k∧(bR st' i).isSome=true
  ·obtain⟨i,hi,hs⟩:=hx
   obtain⟨e',he'⟩:=b8.1 hs
   right
   have h1:=hat1 i e' he'
   rw[hi] at h1
   have h2:bR (pU g.st (gi m m st')) k=some e:=he
   rw[h2] at h1
   obtain rfl:=Option.some.inj h1
   rw[←hi]
   exact gk.e9 hrenout hs ((hc.en i e' he').frame (fun b hb _=>⟨hfree2 b hb,rfl⟩) (ar _) (gY.refl _ _) rfl (fun _ _ _=>rfl))
  ·left
   have h2:bR (pU g.st (gi m m st')) k=some e:=he
   rw[hat2 k hx] at h2
   exact⟨h2,hν2 k hx,fun b hl hb=>hother k e b hx h2 hl hb⟩
 ·intro k e b he hl hb
  rcases hown2 b ⟨k,e,he,hl,hb⟩ with h1|h1
  ·rcases hc.base b h1 with h2|h2
   ·left
    rw[hO,dh] at h2
    exact hownc b h2
   ·rw[h0] at h2
    exact .inr h2
  ·exact .inl h1.1
 ·intro k k' e e' b h1 h2 h3 h4 h5 h6
  have cls:∀(k:Nat)(e:En),bR (pU g.st (gi m m st')) k=some e→e.live=true→(ν'' k).has b →
   (∃i e',look m i=k∧bR st' i=some e'∧e'.live=true∧(ν' i).has b)∨((¬ ∃i,look m i=k∧(bR st' i).isSome=true)∧g.at k=some e∧(ν k).has b):=by
   intro k e h1 h3 h5
   by_cases hx:∃i,look m i=k∧(bR st' i).isSome=true
   ·obtain⟨i,hi,hs⟩:=hx
    obtain⟨e',he'⟩:=b8.1 hs
    left
    have:=hat1 i e' he'
    rw[hi,h1] at this
    obtain rfl:=Option.some.inj this
    exact⟨i,e',hi,he',by rw[←En.kK m];exact h3,by rw[←hν1 i hs,hi];exact h5⟩
   ·rw[hat2 k hx] at h1
    rw[hν2 k hx] at h5
    exact .inr ⟨hx,h1,h5⟩
  have mix:∀(i:Nat)(ei:En)(k:Nat)(e:En),bR st' i=some ei→ei.live=true→(ν' i).has b→(¬ ∃i,look m i=k∧(bR st' i).isSome=true)→g.at k=some e→e.live=true→(ν k).has b→False:=by
   intro i ei k e k1 k2 k3 k4 k5 k6 k7
   have hno:=hother k e b k4 k5 k6 k7
   rcases hc.base b ⟨i,ei,k1,k2,k3⟩ with h2|h2
   ·rw[hO,dh] at h2
    exact hno h2
   ·rw[h0] at h2
    have:=h.lt ⟨k,e,k5,k6,k7⟩
    omega
  rcases cls k e h1 h3 h5 with⟨i,e1,i1,i2,i3,i4⟩|⟨i1,i2,i3⟩
  ·rcases cls k' e' h2 h4 h6 with⟨j,e2,j1,j2,j3,j4⟩|⟨j1,j2,j3⟩
   ·rw[←i1,←j1,hc.inj i j e1 e2 b i2 j2 i3 j3 i4 j4]
   ·exact(mix i e1 k' e' i2 i3 i4 j1 j2 h4 j3).elim
  ·rcases cls k' e' h2 h4 h6 with⟨j,e2,j1,j2,j3,j4⟩|⟨j1,j2,j3⟩
   ·exact(mix j e2 k e j2 j3 j4 i1 i2 h3 i3).elim
   ·exact h.inj k k' e e' b i2 j2 h3 h4 i3 j3
 ·intro k hk
  by_cases hx:∃i,look m i=k∧(bR st' i).isSome=true
  ·obtain⟨i,hi,hs⟩:=hx
   right
   rw[←hi,hν1 i hs]
   exact hc.nu i hs
  ·left
   have h2:(bR (pU g.st (gi m m st')) k).isSome=true:=hk
   rw[hat2 k hx] at h2
   exact h2
 ·simp[size_put,eM,h.size]
 ·intro t
  simp only[lY,il,h.size]
  by_cases hcc:t=d∧d<g.sl.length
  ·simp only[hcc,and_self,if_true]
   exact .inr hres
  ·simp only[hcc,if_false]
   exact .inl ⟨trivial,trivial⟩
def jj(g:G)(M:List Nat)(n:Nat):List Nat→List (Option En)→Prop
 | _,[]=>True
 | k::ks,some e::es=>g.at k=some (e.gZ M)∧e.lt n=true∧jj g M n ks es
 | _,_=>False
theorem jj.at{g:G}{M:List Nat}{n:Nat}:∀{m:List Nat}{cE:List (Option En)},jj g M n m cE→∀i,i<cE.length→∃e,bR cE i=some e∧g.at (look m i)=some (e.gZ M)∧e.lt n=true
 | _,[],_,i,h=>by simp at h
 | [],_::_,h,_,_=>by simp[jj] at h
 | _::_,none::_,h,_,_=>by simp[jj] at h
 | k::ks,some e::es,h,0,_=>by
   simp only[jj] at h
   exact⟨e,rfl,h.1,h.2.1⟩
 | k::ks,some e::es,h,i+1,hi=>by
   simp only[jj] at h
   simp only[bR,look]
   exact jj.at h.2.2 i (by simpa using hi)
def eL(g:G):Nat→List Nat→Prop
 | _,[]=>True
 | 0,k::ks=>g.at k=none∧eL g 0 ks
 | n+1,_::ks=>eL g n ks
theorem eL.at{g:G}:∀{n:Nat}{m:List Nat},eL g n m→∀i,n≤i→i<m.length→g.at (look m i)=none
 | _,[],_,i,_,h=>by simp at h
 | 0,k::ks,h,0,_,_=>by simp only[eL] at h;exact h.1
 | 0,k::ks,h,i+1,_,hi=>by
   simp only[eL] at h
   simp only[look]
   exact eL.at h.2 i (cN _) (by simpa using hi)
 | n+1,_::ks,h,0,hn,_=>by omega
 | n+1,_::ks,h,i+1,hn,hi=>by
   simp only[eL] at h
   simp only[look]
   exact eL.at h i (by omega) (by simpa using hi)
theorem ai.app:∀{w:World}{ok:Nat→Prop}{ν:Nat→Nm}{st:Nat→Option En}{ps qs:List PV}{us vs:List Value},ai w ok ν st ps us→ai w ok ν st qs vs→ai w ok ν st (ps++qs) (us++vs):=
 fun h h'=>ai.append h h'
mutual
def cv:PV→PV→Prop
 | .aV,.d y=>y= .b7 []
 | .agg cs,.agg ds=>yb cs ds
 | p,q=>p=q
def yb:List PV→List PV→Prop
 | [],[]=>True
 | p::ps,q::qs=>cv p q∧yb ps qs
 | _,_=>False
end
theorem KS:yb [] []:=by simp[yb]
theorem I8{p q:PV}{ps qs:List PV}(h:cv p q)(h':yb ps qs):yb (p::ps) (q::qs):=by simp only[yb];exact⟨h,h'⟩
mutual
theorem NC:∀(p:PV),cv p p
 | .agg cs=>by simp only[cv];exact BA cs
 | .any=>by simp[cv]
 | .undef=>by simp[cv]
 | .aV=>by simp[cv]
 | .d x=>by simp[cv]
 | .gN cs=>by simp[cv]
 | .ptr k off=>by simp[cv]
 | .acc k=>by simp[cv]
 | .dv k i off sz=>by simp[cv]
 | .di xs i off=>by simp[cv]
 | .fn f cap=>by simp[cv]
theorem BA:∀(ps:List PV),yb ps ps
 | []=>KS
 | p::ps=>I8 (NC p) (BA ps)
end
section
variable{w:World}{ok:Nat→Prop}{ν:Nat→Nm}{st:Nat→Option En}
mutual
theorem aj.cv:∀(p q:PV)(v:Value),cv p q→aj w ok ν st p v→aj w ok ν st q v
 | .aV,q,v,h,hv=>by
   cases q<;>simp only[Eng.cv] at h<;>first
    | (subst h;simp only[aj] at hv⊢;rw[hv];exact .nil)
    | exact hv
    | (cases h;done)
 | .agg cs,q,v,h,hv=>by
   cases q with
   | agg ds=>
     simp only[Eng.cv] at h
     simp only[aj] at hv⊢
     obtain⟨vs,e,hv⟩:=hv
     exact⟨vs,e,ai.cv cs ds vs h hv⟩
   | any=>simp only[aj]
   | undef=>simp only[Eng.cv] at h;cases h
   | aV=>simp only[Eng.cv] at h;cases h
   | d x=>simp only[Eng.cv] at h;cases h
   | gN cs=>simp only[Eng.cv] at h;cases h
   | ptr k off=>simp only[Eng.cv] at h;cases h
   | acc k=>simp only[Eng.cv] at h;cases h
   | dv k i off sz=>simp only[Eng.cv] at h;cases h
   | di xs i off=>simp only[Eng.cv] at h;cases h
   | fn f cap=>simp only[Eng.cv] at h;cases h
 | .any,q,v,h,hv=>by simp only[Eng.cv] at h;rw[←h];exact hv
 | .undef,q,v,h,hv=>by simp only[Eng.cv] at h;rw[←h];exact hv
 | .d x,q,v,h,hv=>by simp only[Eng.cv] at h;rw[←h];exact hv
 | .gN cs,q,v,h,hv=>by simp only[Eng.cv] at h;rw[←h];exact hv
 | .ptr k off,q,v,h,hv=>by simp only[Eng.cv] at h;rw[←h];exact hv
 | .acc k,q,v,h,hv=>by simp only[Eng.cv] at h;rw[←h];exact hv
 | .dv k i off sz,q,v,h,hv=>by simp only[Eng.cv] at h;rw[←h];exact hv
 | .di xs i off,q,v,h,hv=>by simp only[Eng.cv] at h;rw[←h];exact hv
 | .fn f cap,q,v,h,hv=>by simp only[Eng.cv] at h;rw[←h];exact hv
theorem ai.cv:∀(ps qs:List PV)(vs:List Value),yb ps qs→ai w ok ν st ps vs→ai w ok ν st qs vs
 | [],[],vs,_,hv=>hv
 | p::ps,q::qs,[],_,hv=>by simp[ai] at hv
 | p::ps,q::qs,v::vs,h,hv=>by
   simp only[yb] at h
   simp only[ai] at hv⊢
   exact⟨aj.cv p q v h.1 hv.1,ai.cv ps qs vs h.2 hv.2⟩
 | [],_::_,_,h,_=>by simp[yb] at h
 | _::_,[],_,h,_=>by simp[yb] at h
end
end
theorem Lc{P:Program}{o:Oper}{g:G}{iB:Operand}{xs:List Operand}{tys:Array TypeId}{d:Nat}(ho:o.op= .call ⟨.value iB,⟨xs⟩,tys⟩)(hd:o.dst=some d){f:FuncId}{cap:List PV}(hfn:g.ev iB= .fn f cap)
 (m:List Nat) (bA:List PV) (cE:List (Option En)) (R:PV→List (Option En)→Prop) (hC:C P f bA cE R) (jN:yb (xs.map g.ev++cap) (kR m bA)) (kf:oo cE.length bA=true) (hm:m.Nodup) (hml:cE.length≤m.length)
 (hf:jj g m cE.length m cE) (hnew:eL g cE.length m) (hR:∀r s,R r s→cE.length≤s.length∧s.length≤m.length)
 (X:Cx) (ν:Nat→Nm) (a:Act) (w:World) (next:Act→World→Prop) (Q:Exit→Act→World→Prop) (hs:Sat P X ν g a w)
 (hn:∀r s ν' a' w',R r s→Sat P X ν' ⟨gy g.sl d (r.gZ m),pU g.st (gi m m s)⟩ a' w'→next a' w'):o.wp P a w next Q:=by
 have hfv:=hs.ev iB
 rw[hfn] at hfv
 simp only[aj] at hfv
 obtain⟨vcap,hfv,fV⟩:=hfv
 have hxs:=rU hs xs
 have mr:ai w (bm X ν g.at) ν g.at (kR m bA) (xs.map a.eval++vcap):=ai.cv _ _ _ jN (hxs.app fV)
 obtain⟨⟨fn,hfn1,hfn2,hfn3⟩,hC⟩:=hC
 have hr:(execOp a.eval o).run P w= .ok (.enter f ⟨xs.map a.eval++vcap⟩) w:=by
  have n1 : ¬ fn.name = "runtime.NumGoroutine" := by simpa using hfn3
  have n2:¬fn.body=none:=fun e=>by rw[e] at hfn2;cases hfn2
  simp[execOp,ho,resolve,hfv,Deferred.ofValue,invoke,callFunc,program,hfn1,n1,n2,Sem.run]
 let Xc:Cx:=⟨w,Own (fun i=>ν (look m i)) (bR cE),fun i=>ν (look m i),bR cE,fun b=>X.Z b∨(Own ν g.at b∧¬Own (fun i=>ν (look m i)) (bR cE) b)⟩
 have hfits:Fits g m cE:=hf.at
 have hent:=hs.enter m bA cE (xs.map a.eval++vcap) hm hml hfits mr kf Xc rfl (fun _ _=>rfl) rfl rfl rfl
 unfold Oper.wp
 rw[hr,Oper.upon_enter]
 refine(hC Xc (xs.map a.eval++vcap) rfl rfl hent).mono ?_
 rintro e w' ⟨v,res,st',ν',rfl,hRr,dX⟩
 obtain⟨h1,h2⟩:=hR res st' hRr
 obtain⟨ν'',hs'⟩:=hs.leave m cE st' hm h2 h1 hfits (fun i hi hi'=>hnew.at i hi (by omega)) Xc rfl (fun _ _=>rfl) rfl rfl rfl dX d
 show next (a.put o.dst v) w'
 rw[hd]
 exact hn res st' ν'' _ _ hRr hs'
section
variable{E:Env}{g:G}{d:Nat}{ty:TypeId}{pos:String}{cP:Array Edge}{gd:Option (Nat×Bool)}
theorem FC(iB:Operand)(xs:List Operand)(tys:Array TypeId)(f:FuncId)(cap:List PV)(hfn:g.ev iB= .fn f cap)(m:List Nat)(bA:List PV)(cE st':List (Option En))(res:PV)(hC:C E.P f bA cE (bw res st'))
 (jN:yb (xs.map g.ev++cap) (kR m bA)) (kf:oo cE.length bA=true) (hm:m.Nodup) (hml:cE.length≤m.length) (hf:jj g m cE.length m cE) (hnew:eL g cE.length m) (h1:cE.length≤st'.length) (h2:st'.length≤m.length) :
 gL E.P ⟨some d,.call ⟨.value iB,⟨xs⟩,tys⟩,ty,pos,cP,gd⟩ g ⟨bZ iB++xs.flatMap bZ,m⟩ ⟨some (d,res.gZ m),gi m m st'⟩:=by
 intro g2 hg
 have e1:=hg.ev (x:=iB) (fun t h=>by simp[h])
 have e2:=np hg xs (fun t h=>by simp only[aG];exact .inr h)
 have fX:∀k∈m,g2.at k=g.at k:=fun k hk=>hg.p k hk
 have hfl:∀(ks:List Nat)(es:List (Option En)),(∀k∈ks,k∈m)→jj g m cE.length ks es→jj g2 m cE.length ks es:=by
  intro ks
  induction ks with
  | nil=>intro es _ h;cases es<;>first|trivial|(simp[jj] at h)
  | cons k ks ih=>
    intro es hk h
    match es,h with
    | [],_=>trivial
    | some e::es,h=>
      simp only[jj] at h⊢
      exact⟨by rw[fX k (hk k (by simp))];exact h.1,h.2.1,ih es (fun k h=>hk k (by simp[h])) h.2.2⟩
    | none::es,h=>simp[jj] at h
 have hfr:∀(ks:List Nat)(n:Nat),(∀k∈ks,k∈m)→eL g n ks→eL g2 n ks:=by
  intro ks
  induction ks with
  | nil=>intro n _ _;cases n<;>trivial
  | cons k ks ih=>
    intro n hk h
    cases n with
    | zero=>
      simp only[eL] at h⊢
      exact⟨by rw[fX k (hk k (by simp))];exact h.1,ih 0 (fun k h=>hk k (by simp[h])) h.2⟩
    | succ n=>
      simp only[eL] at h⊢
      exact ih n (fun k h=>hk k (by simp[h])) h
 intro X ν a w next Q hs hn
 refine Lc rfl rfl (by rw[e1,hfn]) m bA cE (bw res st') hC (by rw[e2];exact jN) kf hm hml (hfl m cE (fun _ h=>h) hf) (hfr m _ (fun _ h=>h) hnew) (fun r s h=>by rw[h.2];exact⟨h1,h2⟩) X ν a w next Q hs ?_
 rintro r s ν' a' w' ⟨rfl,rfl⟩ hs'
 exact hn ν' a' w' hs'
end
def El:List PV→Nat→Bool
 | [],0=>true
 | _::as,n+1=>El as n
 | _,_=>false
theorem E4:∀{l:List PV}{n:Nat},El l n=true→l.length=n
 | [],0,_=>rfl
 | _::as,n+1,h=>by simp[E4 (l:=as) (n:=n) (by simpa[El] using h)]
 | [],_+1,h=>by simp[El] at h
 | _::_,0,h=>by simp[El] at h
def H7(E:Env)(g:G):ResultVar→Option PV
 | .tmp t=>some (nth g.sl t)
 | .cell s t=>match nth g.sl s with
   | .ptr k 0=>match g.at k,E.ti t with
     | some (.box cs),some ti=>match El cs ti.n with|true=>some (Fq ti.isAgg cs)|false=>none
     | _,_=>none
   | _=>none
def qJ(E:Env)(g:G):List ResultVar→Option (List PV)
 | []=>some []
 | r::rs=>match H7 E g r,qJ E g rs with
   | some p,some ps=>some (p::ps)
   | _,_=>none
def gf:List PV→PV
 | [p]=>p
 | ps=>.gN ps
def BF(tmps:Array Value)(r:ResultVar):Sem Value:=
 match r with
 | .tmp t=>pure (tmps.getD t Go.undef)
 | .cell a t=>do loadVar t (←asAddr (tmps.getD a Go.undef))
theorem Jd{E:Env}{X:Cx}{ν:Nat→Nm}{g:G}{a:Act}{w:World}(h:Sat E.P X ν g a w){r:ResultVar}{p:PV}(hr:H7 E g r=some p) :
 ∃v,(BF a.tmps r).run E.P w= .ok v w∧aj w (bm X ν g.at) ν g.at p v:=by
 cases r with
 | tmp t=>
   simp only[H7,Option.some.injEq] at hr
   subst hr
   exact⟨_,rfl,h.sl t⟩
 | cell s t=>
   simp only[H7] at hr
   have hv:=h.sl s
   split at hr
   ·rename_i k hk
    rw[hk] at hv
    simp only[aj] at hv
    obtain⟨_,b,hb,hv⟩:=hv
    split at hr
    ·rename_i cs ti hcs hti
     split at hr
     ·rename_i cZ
      have cZ:=E4 cZ
      obtain rfl:=Option.some.inj hr
      obtain⟨b',vs,T,hb',hheap,iO,_⟩:=h.en k _ hcs
      obtain rfl:b'=b:=by rw[hb'] at hb;simpa using hb
      obtain⟨v,h1,h2⟩:=kJ (E.ok t ti hti) w b' 0 vs (by rw[iO.length,cZ]) (nT hheap)
      refine⟨v,?_,pH iO h2⟩
      simp only[BF,hv,asAddr,Sem.run_bind,Sem.run_pure,Result.andThen_ok,h1]
     ·cases hr
    ·cases hr
   ·cases hr
theorem B8{E:Env}{X:Cx}{ν:Nat→Nm}{g:G}{a:Act}{w:World}(h:Sat E.P X ν g a w):∀{rs:List ResultVar}{ps:List PV},qJ E g rs=some ps →
 ∃vs,(rs.mapM (BF a.tmps)).run E.P w= .ok vs w∧ai w (bm X ν g.at) ν g.at ps vs
 | [],ps,hr=>by
   simp only[qJ,Option.some.injEq] at hr
   subst hr
   exact⟨[],rfl,by simp[ai]⟩
 | r::rs,ps,hr=>by
   simp only[qJ] at hr
   split at hr
   ·rename_i p ps' h1 h2
    obtain rfl:=Option.some.inj hr
    obtain⟨v,k1,k2⟩:=Jd h h1
    obtain⟨vs,m1,m2⟩:=B8 h h2
    refine⟨v::vs,?_,by simp only[ai];exact⟨k2,m2⟩⟩
    rw[List.mapM_cons]
    simp only[Sem.run_bind,Sem.run_pure]
    rw[k1]
    simp only[Result.andThen_ok]
    rw[m1]
    rfl
   ·cases hr
theorem uS{E:Env}{X:Cx}{ν:Nat→Nm}{g:G}{a:Act}{w:World}(h:Sat E.P X ν g a w){fn:Func}{ps:List PV}(hr:qJ E g fn.results.toList=some ps) :
 ∃v,(results fn a.tmps).run E.P w= .ok v w∧aj w (bm X ν g.at) ν g.at (gf ps) v:=by
 obtain⟨vs,h1,h2⟩:=B8 h hr
 have hl:=h2.length
 refine⟨_,by
  have e:results fn a.tmps=(do let vs ←fn.results.mapM (BF a.tmps);pure (if h:vs.size=1 then vs[0] else .tuple vs)):=rfl
  rw[e,Array.mapM_eq_mapM_toList]
  simp only[Sem.run_bind,map_eq_pure_bind]
  rw[h1]
  simp only[Result.andThen_ok,Sem.run_pure]
  rfl,?_⟩
 match ps,vs,h2 with
 | [p],[v],h2=>simp only[ai,and_true] at h2;simpa[gf] using h2
 | [],[],h2=>simp only[gf,aj];exact⟨[],by simp,h2⟩
 | p::q::ps,v::u::vs,h2=>simp only[gf,aj];exact⟨v::u::vs,by simp,h2⟩
 | [],_::_,h2=>simp[ai] at h2
 | _::_,[],h2=>simp[ai] at h2
 | [_],_::_::_,h2=>simp[ai] at h2
 | _::_::_,[_],h2=>simp[ai] at h2
def MH(E:Env)(rs:List ResultVar)(n0:Nat)(R:PV→List (Option En)→Prop)(g:G):Prop:=
 ∃ps m res st',qJ E g rs=some ps∧kR m [res]=[gf ps]∧res.lt st'.length=true∧m.length=st'.length∧m.Nodup∧jj g m st'.length m st'∧(∀i,i<n0→look m i=i∧i<m.length)∧R res st'
theorem MH.sat{E:Env}{rs:List ResultVar}{n0:Nat}{R:PV→List (Option En)→Prop}{g:G}(h:MH E rs n0 R g){X:Cx}{ν:Nat→Nm}{a:Act}{w:World}(hp:Mw X n0)(hs:Sat E.P X ν g a w){fn:Func}(hfn:fn.results.toList=rs) :
 ∃v res st' ν',(results fn a.tmps).run E.P w= .ok v w∧R res st'∧Gk E.P X ν' res st' v w:=by
 obtain⟨ps,m,res,st',h1,h2,h3,h4,h5,h6,h7,h8⟩:=h
 obtain⟨v,hr,hv⟩:=uS hs (fn:=fn) (by rw[hfn];exact h1)
 refine⟨v,res,st',fun i=>ν (look m i),hr,h8,?_⟩
 have h2':res.gZ m=gf ps:=by simpa[kR] using h2
 rw[←h2'] at hv
 let Xc:Cx:=⟨w,Own (fun i=>ν (look m i)) (bR st'),fun i=>ν (look m i),bR st',fun b=>X.Z b∨(Own ν g.at b∧¬Own (fun i=>ν (look m i)) (bR st') b)⟩
 have hent:=hs.enter m [res] st' [v] h5 (by omega) h6.at (by simpa[kR,ai] using hv) (by simp[oo,h3]) Xc rfl (fun _ _=>rfl) rfl rfl rfl
 have hownsub:∀b,Own (fun i=>ν (look m i)) (bR st') b→Own ν g.at b:=by
  rintro b ⟨i,e,k1,k2,k3⟩
  have hi:=jD (by rw[k1];rfl)
  obtain⟨e',m1,m2,_⟩:=h6.at i hi
  rw[k1] at m1
  obtain rfl:=Option.some.inj m1
  exact⟨look m i,_,m2,by rw[En.kK];exact k2,k3⟩
 have hfree:∀b,bm Xc (fun i=>ν (look m i)) (bR st') b→b<w.heap.size→bm X (fun i=>ν (look m i)) (bR st') b∧w.heap[b]?=w.heap[b]?:=
  fun b hb _=>⟨⟨hb.1,fun hz=>hb.2 (.inl hz)⟩,rfl⟩
 refine⟨by simp,fun t=>?_,fun i e he=>?_,hent.inj,fun b hb=>hs.base b (hownsub b hb),hent.nu,fun k hk=>?_,hs.wx,hs.qp,rfl⟩
 ·exact aj.frame hfree (ar _) (gY.refl _ _) _ _ (hent.sl t)
 ·exact(hent.en i e he).frame hfree (ar _) (gY.refl _ _) rfl (fun _ _ _=>rfl)
 ·obtain⟨k1,k2⟩:=h7 k (hp k hk)
  obtain⟨p1,p2⟩:=hs.par k hk
  refine⟨by show(ν (look m k)).v=_;rw[k1];exact p1,?_⟩
  obtain⟨e,q1,_⟩:=h6.at k (by omega)
  show(bR st' k).isSome=true
  rw[q1];rfl
def Ei(D:G→Prop):Ex→G→Prop
 | .normal,g=>D g
 | .ret,g=>D g
 | .exit _,_=>False
theorem BX {E : Env} {f : FuncId} {fn : Func} {c : Code} {args : List PV} {cE : List (Option En)} {R : PV → List (Option En) → Prop} (hf : E.P.funcs[f]? = some fn) (hb : fn.body = some c) (hname : (fn.name == "runtime.NumGoroutine") = false)
 (D:G→Prop) (hD:∀(g:G)(X:Cx)(ν:Nat→Nm)(a:Act)(w:World),D g→Mw X cE.length→Sat E.P X ν g a w→∃v res st' ν',(results fn a.tmps).run E.P w= .ok v w∧R res st'∧Gk E.P X ν' res st' v w)
 (h:W E.P cE.length c ⟨args++au (fn.ntmps-args.length) .undef,cE⟩ (Ei D)):C E.P f args cE R:=by
 refine⟨⟨fn,hf,by rw[hb];rfl,hname⟩,fun X vs dh hO hs=>?_⟩
 have hvl:vs.length=args.length:=by have:=hs.size;simpa using this
 refine calls_of_wp hf hb ?_
 have hs':Sat E.P X X.ν0 ⟨args++au (fn.ntmps-args.length) .undef,cE⟩ { tmps:=⟨vs⟩++kY (fn.ntmps-(⟨vs⟩:Array Value).size) Go.undef,defers:=[] } X.w0:=by
  refine⟨by simp[hvl],fun t=>?_,hs.en,hs.inj,hs.base,hs.nu,hs.par,hs.wx,hs.qp,rfl⟩
  have key:∀(ps:List PV)(us:List Value)(n t:Nat),ps.length=us.length→(∀t,aj X.w0 (bm X X.ν0 (bR cE)) X.ν0 (bR cE) (nth ps t) (us.getD t Go.undef)) →
   aj X.w0 (bm X X.ν0 (bR cE)) X.ν0 (bR cE) (nth (ps++au n .undef) t) ((us++au n Go.undef).getD t Go.undef):=by
   intro ps
   induction ps with
   | nil=>
     intro us n t hl _
     obtain rfl:us=[]:=ba (by simpa using hl.symm)
     simp only[bB]
     have e1:∀n t,(au n Go.undef).getD t Go.undef=Go.undef:=by
      intro n t
      simp only[List.getD,List.getElem?_replicate]
      split<;>rfl
     have e2:∀n t,aj X.w0 (bm X X.ν0 (bR cE)) X.ν0 (bR cE) (nth (au n .undef) t) Go.undef:=by
      intro n
      induction n with
      | zero=>intro t;cases t<;>simp[nth,aj]
      | succ n ih=>
        intro t
        cases t with
        | zero=>simp[eY,nth,aj]
        | succ t=>simpa[eY,nth] using ih t
     rw[e1]
     exact e2 n t
   | cons p ps ih=>
     intro us n t hl hr
     cases us with
     | nil=>simp at hl
     | cons u us=>
       cases t with
       | zero=>simpa[nth] using hr 0
       | succ t=>
         simp only[List.cons_append,nth,List.getD_cons_succ]
         exact ih us n t (by simpa using hl) fun t=>by simpa[nth] using hr (t+1)
  have:=key args vs (fn.ntmps-args.length) t hvl.symm (fun t=>by
   have h1:aj X.w0 (bm X X.ν0 (bR cE)) X.ν0 (bR cE) (nth args t) ((⟨vs⟩:Array Value).getD t Go.undef):=hs.sl t
   simpa[bp] using h1)
  show aj X.w0 (bm X X.ν0 (bR cE)) X.ν0 (bR cE) _ _
  rw[bp,←Array.getElem?_toList]
  simpa[hvl] using this
 refine wp_mono (h X X.ν0 _ _ (fun k hk=>by rw[dh] at hk;exact jD hk) hs') fun e a' w' hl=>?_
 have hpar:Mw X cE.length:=fun k hk=>by rw[dh] at hk;exact jD hk
 cases e with
 | normal=>
   obtain⟨g',ν',h1,h2⟩:=hl
   obtain⟨v,res,st',ν2,k1,k2,k3⟩:=hD _ _ _ _ _ h1 hpar h2
   exact⟨h2.defs,v,k1,v,res,st',ν2,rfl,k2,k3⟩
 | ret=>
   obtain⟨g',ν',h1,h2⟩:=hl
   obtain⟨v,res,st',ν2,k1,k2,k3⟩:=hD _ _ _ _ _ h1 hpar h2
   exact⟨h2.defs,v,k1,v,res,st',ν2,rfl,k2,k3⟩
 | exit id=>obtain⟨g',ν',h1,h2⟩:=hl;exact h1.elim
 | goto l=>exact hl.elim
 | panic c=>exact hl.elim
 | outgrown=>exact hl.elim
def zeroOf(P:Program)(t:TypeId):Value:=((P.info? t).bind (·.zero)).getD Go.undef
def jm(P:Program):List Field→List (Nat×Nat×Nat)→Bool
 | [],[]=>true
 | f::fs,(ft,off,sz)::xs=>f.type == ft&&f.offset == off&&P.cellsOf ft == sz&&decide (0<sz)&&jm P fs xs
 | _,_=>false
def mA(P:Program):TY→Option TypeDesc→Bool
 | .bool,some .bool=>true
 | .int k,some (.int k')=>decide (k=k')
 | .str,some .string=>true
 | .ptr e,some (.pointer e')=>e == e'
 | .slice e,some (.slice e')=>e == e'
 | .arr n e,some (.array n' e')=>n == n'&&e == e'
 | .struct xs,some (.struct fields)=>jm P fields.toList xs
 | .other,some (.struct _)=>false
 | .other,some (.array _ _)=>false
 | .other,some _=>true
 | _,_=>false
def Bo(P:Program)(t:TypeId)(ti:TI):Bool:=
 match P.info? t with
 | some i=>i.size == ti.n&&i.bytes == ti.bytes&&i.zero.isSome&&(zeroOf P t).cells.size == ti.n&&decide (0<ti.n)&&(ti.isAgg||ti.n == 1)&&mA P ti.ty (P.underlying t)
 | none=>false
theorem pe(P:Program):∀(fs:List Field)(xs:List (Nat×Nat×Nat)),jm P fs xs=true →
 fs.mapM (fun f=>(P.info? f.type).map fun i=>(f.offset,i.size))=some (xs.map fun x=>(x.2.1,x.2.2)) ∧
  ∀(j ft off sz:Nat),xs[j]?=some (ft,off,sz)→∃f,fs[j]?=some f∧f.type=ft∧f.offset=off∧P.cellsOf ft=sz∧0<sz
 | [],[],_=>⟨rfl,by simp⟩
 | [],_::_,h=>by simp[jm] at h
 | _::_,[],h=>by simp[jm] at h
 | f::fs,(ft,off,sz)::xs,h=>by
   simp only[jm,ae,beq_iff_eq,decide_eq_true_eq] at h
   obtain⟨⟨⟨⟨h1,h2⟩,h3⟩,h4⟩,h5⟩:=h
   obtain⟨k1,k2⟩:=pe P fs xs h5
   refine⟨?_,fun j a b c hj=>?_⟩
   ·rw[List.mapM_cons,k1]
    cases hq:P.info? f.type with
    | none=>
      rw[h1] at hq
      simp[Program.cellsOf,hq] at h3
      omega
    | some i=>
      rw[h1] at hq
      have:i.size=sz:=by simpa[Program.cellsOf,hq] using h3
      simp[h2,this]
   ·cases j with
    | zero=>
      simp only[jt,Option.some.injEq,Prod.mk.injEq] at hj
      obtain⟨rfl,rfl,rfl⟩:=hj
      exact⟨f,rfl,h1,h2,h3,h4⟩
    | succ j=>
      obtain⟨f',m1,m2⟩:=k2 j a b c (by simpa using hj)
      exact⟨f',by simpa using m1,m2⟩
theorem TI.Ok.HI{P:Program}{t:TypeId}{ti:TI}(h:Bo P t ti=true)(hz:Bq (zeroOf P t).cells.toList=ti.zero):TI.Ok P t ti:=by
 unfold Bo at h
 cases hi:P.info? t with
 | none=>rw[hi] at h;cases h
 | some i=>
   rw[hi] at h
   simp only[ae,beq_iff_eq,decide_eq_true_eq,fF] at h
   obtain⟨⟨⟨⟨⟨⟨h1,h2⟩,h3⟩,h4⟩,h5⟩,h6⟩,h7⟩:=h
   obtain⟨z,hzz⟩:=b8.1 h3
   have hzo:zeroOf P t=z:=by simp[zeroOf,hi,hzz]
   rw[hzo] at hz h4
   refine⟨⟨i,z,hi,h1,h2,hzz,hz,h4⟩,h5,fun ha=>?_,?_⟩
   ·rcases h6 with h6|h6
    ·rw[ha] at h6;cases h6
    ·exact h6
   ·cases fW:ti.ty with
    | struct xs=>
      rw[fW] at h7
      cases hu:P.underlying t with
      | none=>rw[hu] at h7;cases h7
      | some d=>
        rw[hu] at h7
        cases d<;>simp only[mA] at h7<;>first
         | (cases h7;done)
         | (rename_i fields
            obtain⟨k1,k2⟩:=pe P _ _ h7
            refine⟨fields,hu,k1,fun j ft off sz hj=>?_⟩
            obtain⟨f,m1,m2⟩:=k2 j ft off sz hj
            exact⟨f,by simpa using m1,m2⟩)
    | other=>
      rw[fW] at h7
      cases hu:P.underlying t with
      | none=>rw[hu] at h7;cases h7
      | some d=>
        rw[hu] at h7
        refine⟨d,hu,?_⟩
        cases d<;>simp only[mA] at h7<;>first
         | (cases h7;done)
         | trivial
    | int k=>
      rw[fW] at h7
      cases hu:P.underlying t with
      | none=>rw[hu] at h7;cases h7
      | some d=>
        rw[hu] at h7
        cases d<;>simp only[mA] at h7<;>first
         | (cases h7;done)
         | (simp only[decide_eq_true_eq] at h7;subst h7;exact hu)
    | ptr k=>
      rw[fW] at h7
      cases hu:P.underlying t with
      | none=>rw[hu] at h7;cases h7
      | some d=>
        rw[hu] at h7
        cases d<;>simp only[mA] at h7<;>first
         | (cases h7;done)
         | (simp only[beq_iff_eq] at h7;subst h7;exact hu)
    | slice k=>
      rw[fW] at h7
      cases hu:P.underlying t with
      | none=>rw[hu] at h7;cases h7
      | some d=>
        rw[hu] at h7
        cases d<;>simp only[mA] at h7<;>first
         | (cases h7;done)
         | (simp only[beq_iff_eq] at h7;subst h7;exact hu)
    | arr n k=>
      rw[fW] at h7
      cases hu:P.underlying t with
      | none=>rw[hu] at h7;cases h7
      | some d=>
        rw[hu] at h7
        cases d<;>simp only[mA] at h7<;>first
         | (cases h7;done)
         | (simp only[beq_iff_eq,ae] at h7;obtain⟨rfl,rfl⟩:=h7;exact hu)
    | _=>
      rw[fW] at h7
      cases hu:P.underlying t with
      | none=>rw[hu] at h7;cases h7
      | some d=>
        rw[hu] at h7
        cases d<;>simp only[mA] at h7<;>first
         | (cases h7;done)
         | exact hu
def Ey:List (Option TI)→Nat→Option TI
 | [],_=>none
 | x::_,0=>x
 | _::xs,n+1=>Ey xs n
def mz(P:Program):Nat→List (Option TI)→Prop
 | _,[]=>True
 | k,none::r=>mz P (k+1) r
 | k,some i::r=>TI.Ok P k i∧mz P (k+1) r
theorem mz.get{P:Program}:∀{k:Nat}{l:List (Option TI)},mz P k l→∀t i,Ey l t=some i→TI.Ok P (k+t) i
 | k,[],_,t,i,h=>by cases t<;>simp[Ey] at h
 | k,none::r,h,0,i,hi=>by simp[Ey] at hi
 | k,some x::r,h,0,i,hi=>by
   simp only[Ey,Option.some.injEq] at hi
   subst hi
   exact h.1
 | k,none::r,h,t+1,i,hi=>by
   have:=mz.get (k:=k+1) (l:=r) h t i hi
   rw[show k+(t+1)=k+1+t from by omega]
   exact this
 | k,some _::r,h,t+1,i,hi=>by
   have:=mz.get (k:=k+1) (l:=r) h.2 t i hi
   rw[show k+(t+1)=k+1+t from by omega]
   exact this
theorem mz.all{P:Program}{l:List (Option TI)}(h:mz P 0 l):∀t i,Ey l t=some i→TI.Ok P t i:=fun t i hi=>by
 have:=h.get t i hi
 rwa [bV] at this
def py(P:Program):Nat→List (Option TI)→Bool
 | _,[]=>true
 | k,none::l=>py P (k+1) l
 | k,some i::l=>Bo P k i&&py P (k+1) l
def xl(P:Program):Nat→List (Option TI)→List (List PV)
 | _,[]=>[]
 | k,none::l=>xl P (k+1) l
 | k,some _::l=>Bq (zeroOf P k).cells.toList::xl P (k+1) l
def yq:List (Option TI)→List (List PV)
 | []=>[]
 | none::l=>yq l
 | some i::l=>i.zero::yq l
theorem mz.tn{P:Program}:∀{k:Nat}{l:List (Option TI)},py P k l=true→xl P k l=yq l→mz P k l
 | _,[],_,_=>trivial
 | k,none::l,h,hz=>by
   simp only[py] at h
   simp only[xl,yq] at hz
   show mz P (k+1) l
   exact mz.tn (k:=k+1) (l:=l) h hz
 | k,some i::l,h,hz=>by
   simp only[py,ae] at h
   simp only[xl,yq,List.cons.injEq] at hz
   exact⟨TI.Ok.HI h.1 hz.1,mz.tn (k:=k+1) (l:=l) h.2 hz.2⟩
structure Ky where
 rs:List Nat
 rp:List Nat
 ws:List Nat
 wp:List Nat
def Dl.ws(δ:Dl):List Nat:=match δ.dst with|some (d,_)=>[d]|none=>[]
def Dl.wp(δ:Dl):List Nat:=δ.up.map (·.1)
def j9(R:Rd)(δ:Dl):Ky:=⟨R.s,R.p,δ.ws,δ.wp⟩
def oP:Nat→List Nat→Bool
 | _,[]=>false
 | a,b::bs=>a == b||oP a bs
def meets:List Nat→List Nat→Bool
 | [],_=>false
 | a::as,bs=>oP a bs||meets as bs
theorem kI{a:Nat}:∀{l:List Nat},oP a l=true↔a∈l
 | []=>by simp[oP]
 | b::bs=>by simp[oP,kI (l:=bs)]
theorem ie:∀{l m:List Nat},meets l m=false→∀a,a∈l→a∈m→False
 | [],_,_,a,h,_=>by simp at h
 | b::bs,m,h,a,h1,h2=>by
   simp only[meets,Bool.or_eq_false_iff] at h
   rcases aw.1 h1 with rfl|h1
   ·exact absurd (kI.2 h2) (by simp[h.1])
   ·exact ie h.2 a h1 h2
def Ky.qq(x y:Ky):Bool:=meets x.ws y.rs||meets x.ws y.ws||meets x.rs y.ws||meets x.wp y.rp||meets x.wp y.wp||meets x.rp y.wp
def gB(o:Oper):List Nat:=(o.after.toList.filter (Region.binds .any)).map (·.on)
def nU(T:List (List Nat)):List Nat→List Nat
 | []=>[]
 | j::js=>j::(T.getD j []++nU T js)
def sm:List Oper→List (List Nat)→List (List Nat)
 | [],T=>T
 | o::os,T=>sm os (T++[nU T (gB o)])
def fwd(i:Nat):List Nat→Bool
 | []=>true
 | j::js=>decide (j<i)&&fwd i js
def Hs:Nat→List Oper→Bool
 | _,[]=>true
 | i,o::os=>fwd i (gB o)&&Hs (i+1) os
def tl(b:List Nat)(y:Ky):Nat→List Ky→Bool
 | _,[]=>true
 | j,x::xs=>(oP j b|| !(x.qq y))&&tl b y (j+1) xs
def tb(T:List (List Nat)):Nat→List Ky→List Ky→Bool
 | _,_,[]=>true
 | i,pre,y::ys=>tl (T.getD i []) y 0 pre&&tb T (i+1) (pre++[y]) ys
def indep(os:List Oper)(L:List Ky):Bool:=Hs 0 os&&tb (sm os []) 0 [] L
theorem Cy{i:Nat}:∀{l:List Nat},fwd i l=true→∀j∈l,j<i
 | [],_=>by simp
 | b::bs,h=>by
   simp only[fwd,ae,decide_eq_true_eq] at h
   intro j hj
   rcases aw.1 hj with rfl|hj
   ·exact h.1
   ·exact Cy h.2 j hj
theorem zG:∀{os:List Oper}{i:Nat},Hs i os=true→∀(k:Nat)(o:Oper),os[k]?=some o→∀j∈gB o,j<i+k
 | [],_,_,k,o,h=>by simp at h
 | o'::os,i,hf,k,o,h=>by
   simp only[Hs,ae] at hf
   cases k with
   | zero=>
     obtain rfl:o'=o:=by simpa using h
     simpa using Cy hf.1
   | succ k=>
     have:=zG hf.2 k o (by simpa using h)
     intro j hj
     have:=this j hj
     omega
theorem qk{T:List (List Nat)}{S:Nat→Prop}(hT:∀j,S j→∀k∈T.getD j [],S k):∀(js:List Nat),(∀j∈js,S j)→∀k∈nU T js,S k
 | [],_,k,h=>by simp[nU] at h
 | j::js,hj,k,h=>by
   simp only[nU,aw,aG] at h
   rcases h with rfl|h|h
   ·exact hj _ (by simp)
   ·exact hT j (hj j (by simp)) k h
   ·exact qk hT js (fun j h=>hj j (by simp[h])) k h
theorem oZ{S:Nat→Prop}:∀(os:List Oper)(T:List (List Nat)),(∀(k:Nat)(o:Oper),os[k]?=some o→S (T.length+k)→∀j∈gB o,S j) →
 (∀j,S j→∀k∈T.getD j [],S k)→∀j,S j→∀k∈(sm os T).getD j [],S k
 | [],T,_,hT=>hT
 | o::os,T,ho,hT=>by
   refine oZ os _ (fun k o' hk hS=>?_) (fun j hS k hk=>?_)
   ·refine ho (k+1) o' (by simpa using hk) ?_
    have:(T++[nU T (gB o)]).length+k=T.length+(k+1):=by simp;omega
    rw[←this];exact hS
   ·rcases fN j T.length with h|h|h
    ·refine hT j hS k ?_
     rw[aB,aZ h] at hk
     rwa [aB]
    ·subst h
     rw[aB,aX (ar _)] at hk
     simp only[gG,jt,bP] at hk
     exact qk hT _ (fun j hj=>ho 0 o rfl hS j hj) k hk
    ·rw[aB,bM (by simp;omega)] at hk
     simp at hk
theorem uQ{b:List Nat}{y:Ky}:∀{l:List Ky}{j:Nat},tl b y j l=true→∀(k:Nat)(x:Ky),l[k]?=some x→j+k∈b∨x.qq y=false
 | [],_,_,k,x,h=>by simp at h
 | x'::xs,j,hc,k,x,h=>by
   simp only[tl,ae,fF,Bool.not_eq_true'] at hc
   cases k with
   | zero=>
     obtain rfl:x'=x:=by simpa using h
     exact hc.1.imp kI.1 id
   | succ k=>
     have:=uQ hc.2 k x (by simpa using h)
     rwa [show j+1+k=j+(k+1) by omega] at this
theorem uO{T:List (List Nat)}:∀{l pre:List Ky}{i:Nat},pre.length=i→tb T i pre l=true→∀(j k:Nat)(x y:Ky),j<k→(pre++l)[j]?=some x→(pre++l)[k]?=some y→i≤k→j∈T.getD k []∨x.qq y=false
 | [],pre,i,hl,_,j,k,x,y,_,_,hy,hik=>by
   rw[List.append_nil,bM (by omega)] at hy
   cases hy
 | z::zs,pre,i,hl,hc,j,k,x,y,fY,hx,hy,hik=>by
   simp only[tb,ae] at hc
   by_cases hk:k=i
   ·subst hk
    rw[aX (by omega),hl,gG] at hy
    obtain rfl:z=y:=by simpa using hy
    rw[aZ (by omega)] at hx
    simpa using uQ hc.1 j x hx
   ·exact uO (pre:=pre++[z]) (by simp[hl]) hc.2 j k x y fY (by simpa using hx) (by simpa using hy) (by omega)
theorem wF{os:List Oper}{L:List Ky}(h:indep os L=true):(∀(k:Nat)(o:Oper),os[k]?=some o→∀j∈gB o,j<k) ∧
 ∀(S:Nat→Prop),(∀(k:Nat)(o:Oper),os[k]?=some o→S k→∀j∈gB o,S j)→∀(j k:Nat)(x y:Ky),j<k→L[j]?=some x→L[k]?=some y→x.qq y=true→S k→S j:=by
 simp only[indep,ae] at h
 refine⟨fun k o ho j hj=>by simpa using zG h.1 k o ho j hj,fun S hS j k x y fY hx hy hc hk=>?_⟩
 rcases uO (pre:=[]) rfl h.2 j k x y fY (by simpa using hx) (by simpa using hy) (cN _) with h1|h1
 ·exact oZ os [] (by simpa using hS) (by simp) k hk j h1
 ·rw[hc] at h1;cases h1
def vF{α β:Type}(wr:α→Option β)(S:Nat→Bool):Nat→List α→β→β
 | _,[],v=>v
 | i,x::xs,v=>vF wr S (i+1) xs (match S i,wr x with|true,some u=>u|_,_=>v)
theorem pq{α β:Type}{wr:α→Option β}{S S':Nat→Bool}:∀{xs:List α}{i:Nat}{v:β},(∀(k:Nat)(x:α),xs[k]?=some x→(wr x).isSome=true→S (i+k)=S' (i+k))→vF wr S i xs v=vF wr S' i xs v
 | [],_,_,_=>rfl
 | x::xs,i,v,h=>by
   simp only[vF]
   have h0:=h 0 x rfl
   simp only[eD] at h0
   have e:(match S i,wr x with|true,some u=>u|_,_=>v)=(match S' i,wr x with|true,some u=>u|_,_=>v):=by
    cases hw:wr x with
    | none=>cases S i<;>cases S' i<;>rfl
    | some u=>rw[h0 (by rw[hw];rfl)]
   rw[e]
   exact pq fun k y hk hy=>by
    have:=h (k+1) y (by simpa using hk) hy
    rwa [show i+1+k=i+(k+1) by omega]
theorem E6{α β:Type}{wr:α→Option β}{S:Nat→Bool}:∀{xs:List α}{i:Nat}{v:β},(∀(k:Nat)(x:α),xs[k]?=some x→(wr x).isSome=true→S (i+k)=false)→vF wr S i xs v=v
 | [],_,_,_=>rfl
 | x::xs,i,v,h=>by
   simp only[vF]
   have h0:=h 0 x rfl
   simp only[eD] at h0
   have e:(match S i,wr x with|true,some u=>u|_,_=>v)=v:=by
    cases hw:wr x with
    | none=>cases S i<;>rfl
    | some u=>rw[h0 (by rw[hw];rfl)]
   rw[e]
   exact E6 fun k y hk hy=>by
    have:=h (k+1) y (by simpa using hk) hy
    rwa [show i+1+k=i+(k+1) by omega]
theorem Ar{α β:Type}{wr:α→Option β}{S:Nat→Bool}:∀{xs:List α}{i n:Nat}{v u:β}{x:α},xs[n]?=some x→wr x=some u→S (i+n)=true →
 (∀(k:Nat)(x:α),n<k→xs[k]?=some x→(wr x).isSome=true→S (i+k)=false)→vF wr S i xs v=u
 | [],_,_,_,_,_,h,_,_,_=>by simp at h
 | y::xs,i,0,v,u,x,h,hu,hS,hl=>by
   obtain rfl:y=x:=by simpa using h
   simp only[vF]
   simp only[eD] at hS
   rw[hS,hu]
   exact E6 fun k z hk hz=>by
    have:=hl (k+1) z (by omega) (by simpa using hk) hz
    rwa [show i+1+k=i+(k+1) by omega]
 | y::xs,i,n+1,v,u,x,h,hu,hS,hl=>by
   simp only[vF]
   exact Ar (n:=n) (by simpa using h) hu (by rwa [show i+1+n=i+(n+1) by omega]) fun k z hk hkz hz=>by
    have:=hl (k+1) z (by omega) (by simpa using hkz) hz
    rwa [show i+1+k=i+(k+1) by omega]
def MK(t:Nat)(δ:Dl):Option PV:=match δ.dst with|some (d,p)=>if d=t then some p else none|none=>none
def n8(k:Nat):List (Nat×En)→Option (Option En)
 | []=>none
 | (j,e)::r=>match n8 k r with|some x=>some x|none=>if j=k then some (some e) else none
def NO(k:Nat)(δ:Dl):Option (Option En):=n8 k δ.up
theorem Cq(k:Nat):∀(r:List (Nat×En))(st:List (Option En)),bR (pU st r) k=(n8 k r).getD (bR st k)
 | [],_=>rfl
 | (j,e)::r,st=>by
   simp only[pU,n8]
   rw[Cq k r,dp]
   cases h:n8 k r with
   | some x=>rfl
   | none=>
     by_cases hj:j=k
     ·simp[hj]
     ·have:¬k=j:=fun e=>hj e.symm
      simp[hj,this]
theorem nR{k:Nat}:∀{r:List (Nat×En)},(n8 k r).isSome=true→k∈r.map (·.1)
 | [],h=>by simp[n8] at h
 | (j,e)::r,h=>by
   simp only[n8] at h
   cases hr:n8 k r with
   | some x=>simp[nR (r:=r) (by rw[hr];rfl)]
   | none=>
     rw[hr] at h
     by_cases hj:j=k
     ·simp[hj]
     ·simp[hj] at h
def Br(S:Nat→Bool):Nat→List Dl→G→G
 | _,[],g=>g
 | i,x::xs,g=>Br S (i+1) xs (if S i then g.app x else g)
theorem we(g:G)(δ:Dl):(g.app δ).sl.length=g.sl.length:=by
 unfold G.app nD
 cases δ.dst with
 | none=>rfl
 | some q=>obtain⟨d,p⟩:=q;exact eM _ _ _
theorem mw(S:Nat→Bool):∀(xs:List Dl)(i:Nat)(g:G),(Br S i xs g).sl.length=g.sl.length
 | [],_,_=>rfl
 | x::xs,i,g=>by
   simp only[Br]
   rw[mw S xs]
   split
   ·exact we g x
   ·rfl
theorem B9{g:G}{δ:Dl}{t:Nat}(ht:t<g.sl.length):nth (g.app δ).sl t=(MK t δ).getD (nth g.sl t):=by
 unfold G.app nD MK
 cases δ.dst with
 | none=>rfl
 | some q=>
   obtain⟨d,p⟩:=q
   simp only[il]
   by_cases h:d=t
   ·subst h;simp[ht]
   ·have:¬t=d:=fun e=>h e.symm
    simp[h,this]
theorem IT{g:G}{δ:Dl}{k:Nat}:(g.app δ).at k=(NO k δ).getD (g.at k):=by
 simp only[G.app,G.at,NO]
 exact Cq k _ _
theorem ni(S:Nat→Bool){t:Nat}:∀(xs:List Dl)(i:Nat)(g:G),t<g.sl.length→nth (Br S i xs g).sl t=vF (MK t) S i xs (nth g.sl t)
 | [],_,_,_=>rfl
 | x::xs,i,g,ht=>by
   simp only[Br,vF]
   cases hS:S i with
   | false=>
     simp only[al,if_false]
     exact ni S xs (i+1) g ht
   | true=>
     simp only[if_true]
     rw[ni S xs (i+1) (g.app x) (by rw[we];exact ht),B9 ht]
     cases MK t x<;>rfl
theorem tv(S:Nat→Bool){k:Nat}:∀(xs:List Dl)(i:Nat)(g:G),(Br S i xs g).at k=vF (NO k) S i xs (g.at k)
 | [],_,_=>rfl
 | x::xs,i,g=>by
   simp only[Br,vF]
   cases hS:S i with
   | false=>
     simp only[al,if_false]
     exact tv S xs (i+1) g
   | true=>
     simp only[if_true]
     rw[tv S xs (i+1) (g.app x),IT]
     cases NO k x<;>rfl
theorem oX:∀{l:List PV}{t:Nat},l.length≤t→nth l t= .any
 | [],_,_=>rfl
 | _::l,0,h=>by simp at h
 | _::l,t+1,h=>oX (l:=l) (by simpa using h)
structure Pk(g g':G):Prop where
 len:g.sl.length=g'.sl.length
 s:∀t,nth g.sl t=nth g'.sl t
 p:∀k,g.at k=g'.at k
theorem Sat.eqv{P:Program}{X:Cx}{ν:Nat→Nm}{g g':G}{a:Act}{w:World}(h:Sat P X ν g a w)(e:Pk g g'):Sat P X ν g' a w:=by
 have ea:g.at=g'.at:=funext e.p
 refine⟨h.size.trans e.len,fun t=>?_,?_,?_,?_,?_,?_,h.wx,h.qp,h.defs⟩
 ·rw[←e.s t,←ea];exact h.sl t
 ·rw[←ea];exact h.en
 ·rw[←ea];exact h.inj
 ·rw[←ea];exact h.base
 ·rw[←ea];exact h.nu
 ·rw[←ea];exact h.par
theorem Sat.drawn{P:Program}{X:Cx}{ν:Nat→Nm}{g:G}{a:Act}{w:World}(h:Sat P X ν g a w)(n:Nat):Sat P X ν g a { w with drawn:=n }:=by
 have hf:∀b,bm X ν g.at b→b<w.heap.size→bm X ν g.at b∧({ w with drawn:=n }:World).heap[b]?=w.heap[b]?:=fun b hb _=>⟨hb,rfl⟩
 refine⟨h.size,fun t=>aj.frame hf (ar _) (gY.refl _ _) _ _ (h.sl t),fun k e he=>(h.en k e he).frame hf (ar _) (gY.refl _ _) rfl (fun _ _ _=>rfl),h.inj,h.base,h.nu,h.par,h.wx,?_,h.defs⟩
 exact⟨h.qp.os,h.qp.tape,h.qp.output,h.qp.size,h.qp.block⟩
inductive r3(P:Program)(ops:Array Oper):List Oper→G→List (Rd×Dl)→Prop where
 | nil(g:G):r3 P ops [] g []
 | cons {o:Oper} {os:List Oper} {g:G} {R:Rd} {δ:Dl} {L:List (Rd×Dl)} (h:yQ P ops o g R δ) (hr:r3 P ops os (g.app δ) L):r3 P ops (o::os) g ((R,δ)::L)
def yi(g:G):List (Rd×Dl)→G
 | []=>g
 | x::xs=>yi (g.app x.2) xs
theorem r3.length{P:Program}{ops:Array Oper}{os:List Oper}{g:G}{L:List (Rd×Dl)}(h:r3 P ops os g L):L.length=os.length:=by
 induction h with
 | nil g=>rfl
 | cons h hr ih=>simp[ih]
theorem r3.at{P:Program}{ops:Array Oper}{os:List Oper}{g:G}{L:List (Rd×Dl)}(h:r3 P ops os g L):∀(i:Nat)(o:Oper)(x:Rd×Dl),os[i]?=some o→L[i]?=some x→yQ P ops o (yi g (L.take i)) x.1 x.2:=by
 induction h with
 | nil g=>intro i o x h;simp at h
 | cons h hr ih=>
   intro i o x h1 h2
   cases i with
   | zero=>
     obtain rfl:=Option.some.inj (show some _=some o from by simpa using h1)
     obtain rfl:=Option.some.inj (show some _=some x from by simpa using h2)
     exact h
   | succ i=>exact ih i o x (by simpa using h1) (by simpa using h2)
theorem wS{S:Nat→Bool}:∀(xs:List Dl)(i:Nat)(g:G),(∀k,k<xs.length→S (i+k)=false)→Br S i xs g=g
 | [],_,_,_=>rfl
 | x::xs,i,g,h=>by
   simp only[Br]
   have h0:=h 0 (by simp)
   simp only[eD] at h0
   rw[h0]
   exact wS xs (i+1) _ fun k hk=>by
    have:=h (k+1) (by simpa using hk)
    rwa [show i+1+k=i+(k+1) by omega]
theorem C6:∀(L:List (Rd×Dl))(i n:Nat)(g:G),Br (fun j=>decide (j<i+n)) i (L.map (·.2)) g=yi g (L.take n)
 | [],_,n,_=>by cases n<;>rfl
 | x::xs,i,0,g=>by
   simp only[List.take_zero,yi]
   exact wS _ _ _ fun k hk=>by simp
 | x::xs,i,n+1,g=>by
   simp only[aR,Br,List.take_succ_cons,yi]
   rw[if_pos (by simp)]
   have:=C6 xs (i+1) n (g.app x.2)
   rwa [show i+1+n=i+(n+1) by omega] at this
theorem Fj(S:Nat→Bool):∀(L:List (Rd×Dl))(i:Nat)(g:G),(∀k,k<L.length→S (i+k)=true)→Br S i (L.map (·.2)) g=yi g L
 | [],_,_,_=>rfl
 | x::xs,i,g,h=>by
   simp only[aR,Br,yi]
   rw[if_pos (by have:=h 0 (by simp);simpa using this)]
   exact Fj S xs (i+1) _ fun k hk=>by
    have:=h (k+1) (by simpa using hk)
    rwa [show i+1+k=i+(k+1) by omega]
theorem BH{t:Nat}{δ:Dl}(h:(MK t δ).isSome=true):t∈δ.ws:=by
 unfold MK at h
 unfold Dl.ws
 cases hd:δ.dst with
 | none=>rw[hd] at h;cases h
 | some q=>
   obtain⟨d,p⟩:=q
   rw[hd] at h
   simp only at h
   by_cases e:d=t
   ·subst e;simp
   ·simp[e] at h
theorem nk{x y:Ky}{a:Nat}:(a∈x.ws∧a∈y.rs)∨(a∈x.ws∧a∈y.ws)∨(a∈x.rs∧a∈y.ws)∨(a∈x.wp∧a∈y.rp)∨(a∈x.wp∧a∈y.wp)∨(a∈x.rp∧a∈y.wp)→x.qq y=true:=by
 intro h
 cases hc:x.qq y with
 | true=>rfl
 | false=>
   simp only[Ky.qq,Bool.or_eq_false_iff] at hc
   obtain⟨⟨⟨⟨⟨h1,h2⟩,h3⟩,h4⟩,h5⟩,h6⟩:=hc
   rcases h with h|h|h|h|h|h
   ·exact(ie h1 a h.1 h.2).elim
   ·exact(ie h2 a h.1 h.2).elim
   ·exact(ie h3 a h.1 h.2).elim
   ·exact(ie h4 a h.1 h.2).elim
   ·exact(ie h5 a h.1 h.2).elim
   ·exact(ie h6 a h.1 h.2).elim
theorem HE{L:List (Rd×Dl)}{os:List Oper}(cZ:L.length=os.length)(hi:indep os (L.map fun x=>j9 x.1 x.2)=true)(g:G)(S:Nat→Bool)(hS:∀(k:Nat)(o:Oper),os[k]?=some o→S k=true→∀j∈gB o,S j=true)
 {i:Nat} {o:Oper} {x:Rd×Dl} (ho:os[i]?=some o) (hx:L[i]?=some x) (hd:∀j∈gB o,S j=true) (hn:S i=false) :
 rN x.1 (yi g (L.take i)) (Br S 0 (L.map (·.2)) g)∧Pk ((Br S 0 (L.map (·.2)) g).app x.2) (Br (fun j=>if j=i then true else S j) 0 (L.map (·.2)) g):=by
 obtain⟨hf,hcl⟩:=wF hi
 have hkey:∀(j:Nat)(y:Rd×Dl),L[j]?=some y→(L.map fun x=>j9 x.1 x.2)[j]?=some (j9 y.1 y.2):=fun j y h=>by simp[h]
 have hS':∀(k:Nat)(o:Oper),os[k]?=some o→(fun j=>(if j=i then true else S j)=true) k→∀j∈gB o,(fun j=>(if j=i then true else S j)=true) j:=by
  intro k o' hk hSk j hj
  by_cases OL:k=i
  ·subst OL
   obtain rfl:=Option.some.inj (ho.symm.trans hk)
   have:=hd j hj
   show(if j=k then true else S j)=true
   split<;>first|rfl|exact this
  ·simp only[OL,if_false] at hSk
   have:=hS k o' hk hSk j hj
   show(if j=i then true else S j)=true
   split<;>first|rfl|exact this
 have hbefore:∀(j:Nat)(y:Rd×Dl),L[j]?=some y→j<i→(j9 y.1 y.2).qq (j9 x.1 x.2)=true→S j=true:=by
  intro j y hy hji hc
  have:=hcl (fun j=>(if j=i then true else S j)=true) hS' j i _ _ hji (hkey j y hy) (hkey i x hx) hc (by simp)
  simpa[show ¬j=i by omega] using this
 have hafter:∀(j:Nat)(y:Rd×Dl),L[j]?=some y→i<j→(j9 x.1 x.2).qq (j9 y.1 y.2)=true→S j=false:=by
  intro j y hy hij hc
  cases hj:S j with
  | false=>rfl
  | true=>
    have:=hcl (fun j=>S j=true) hS i j _ _ hij (hkey i x hx) (hkey j y hy) hc hj
    rw[hn] at this;cases this
 have hgi:yi g (L.take i)=Br (fun j=>decide (j<i)) 0 (L.map (·.2)) g:=by
  have:=C6 L 0 i g
  simpa using this.symm
 have hget:∀(k:Nat)(δ:Dl),(L.map (·.2))[k]?=some δ→∃y,L[k]?=some y∧y.2=δ:=by
  intro k δ h
  simp only[dQ,Option.map_eq_some_iff] at h
  exact h
 refine⟨⟨fun t ht=>?_,fun k hk=>?_⟩,⟨by rw[we,mw,mw],fun t=>?_,fun k=>?_⟩⟩
 ·rw[hgi]
  rcases cI t g.sl.length with kf|hge
  ·rw[ni _ _ _ _ kf,ni _ _ _ _ kf]
   refine pq fun j δ hj hw=>?_
   obtain⟨y,hy,rfl⟩:=hget j δ hj
   have hm:=BH hw
   simp only[bV]
   rcases fN j i with h|h|h
   ·rw[hbefore j y hy h (nk (a:=t) (.inl ⟨hm,ht⟩))]
    simp[h]
   ·subst h;rw[hn];simp
   ·rw[hafter j y hy h (nk (a:=t) (.inr (.inr (.inl ⟨ht,hm⟩))))]
    simp;omega
  ·rw[oX (by rw[mw];exact hge),oX (by rw[mw];exact hge)]
 ·rw[hgi,tv,tv]
  refine pq fun j δ hj hw=>?_
  obtain⟨y,hy,rfl⟩:=hget j δ hj
  have hm:k∈y.2.wp:=nR hw
  simp only[bV]
  rcases fN j i with h|h|h
  ·rw[hbefore j y hy h (nk (a:=k) (.inr (.inr (.inr (.inl ⟨hm,hk⟩)))))]
   simp[h]
  ·subst h;rw[hn];simp
  ·rw[hafter j y hy h (nk (a:=k) (.inr (.inr (.inr (.inr (.inr ⟨hk,hm⟩))))))]
   simp;omega
 ·rcases cI t g.sl.length with kf|hge
  ·rw[B9 (by rw[mw];exact kf),ni _ _ _ _ kf,ni _ _ _ _ kf]
   cases hw:MK t x.2 with
   | none=>
     refine pq fun j δ hj hwj=>?_
     obtain⟨y,hy,rfl⟩:=hget j δ hj
     simp only[bV]
     by_cases hji:j=i
     ·subst hji
      obtain rfl:=Option.some.inj (hx.symm.trans hy)
      rw[hw] at hwj;cases hwj
     ·simp[hji]
   | some u=>
     have hmx:t∈x.2.ws:=BH (by rw[hw];rfl)
     refine(Ar (n:=i) (x:=x.2) (by simp[hx]) hw (by simp) fun j δ hji hj hwj=>?_).symm
     obtain⟨y,hy,rfl⟩:=hget j δ hj
     have hm:=BH hwj
     simp only[bV,show ¬j=i by omega,if_false]
     exact hafter j y hy hji (nk (a:=t) (.inr (.inl ⟨hmx,hm⟩)))
  ·rw[oX (by rw[we,mw];exact hge),oX (by rw[mw];exact hge)]
 ·rw[IT,tv,tv]
  cases hw:NO k x.2 with
  | none=>
    refine pq fun j δ hj hwj=>?_
    obtain⟨y,hy,rfl⟩:=hget j δ hj
    simp only[bV]
    by_cases hji:j=i
    ·subst hji
     obtain rfl:=Option.some.inj (hx.symm.trans hy)
     rw[hw] at hwj;cases hwj
    ·simp[hji]
  | some u=>
    have hmx:k∈x.2.wp:=nR (by unfold NO at hw;rw[hw];rfl)
    refine(Ar (n:=i) (x:=x.2) (by simp[hx]) hw (by simp) fun j δ hji hj hwj=>?_).symm
    obtain⟨y,hy,rfl⟩:=hget j δ hj
    have hm:k∈y.2.wp:=nR hwj
    simp only[bV,show ¬j=i by omega,if_false]
    exact hafter j y hy hji (nk (a:=k) (.inr (.inr (.inr (.inr (.inl ⟨hmx,hm⟩))))))
def left(listed:Array Bool)(n:Nat):Nat:=((mf n).filter fun j=>!listed.getD j false).length
theorem filter_lt{p q:Nat→Bool}{i:Nat}:∀{l:List Nat},(∀j,q j=true→p j=true)→i∈l→p i=true→q i=false→(l.filter q).length<(l.filter p).length
 | [],_,h,_,_=>by simp at h
 | a::l,hpq,h,hp,hq=>by
   have hle:∀l:List Nat,(l.filter q).length≤(l.filter p).length:=by
    intro l
    induction l with
    | nil=>simp
    | cons b l ih=>
      simp only[dg]
      cases hqb:q b with
      | false=>
        simp only[al,if_false]
        split
        ·simp only[aq];omega
        ·exact ih
      | true=>simp only[hpq b hqb,if_true,aq];omega
   rcases aw.1 h with rfl|h
   ·simp only[dg,hp,hq,if_true,al,if_false,aq]
    have:=hle l
    omega
   ·have ih:=filter_lt hpq h hp hq
    simp only[dg]
    cases hqa:q a with
    | false=>
      simp only[al,if_false]
      split
      ·simp only[aq];omega
      ·exact ih
    | true=>simp only[hpq a hqa,if_true,aq];omega
theorem Bj{l:Array Bool}{i:Nat}(h:i<l.size):l.getD i true=l.getD i false:=by simp[h]
theorem uN{o:Oper}{j:Nat}:j∈gB o↔∃e∈o.after,Region.binds .any e=true∧e.on=j:=by
 simp only[gB,List.mem_map,cM,Array.mem_toList_iff]
 constructor
 ·rintro⟨e,⟨h1,h2⟩,h3⟩;exact⟨e,h1,h2,h3⟩
 ·rintro⟨e,h1,h2,h3⟩;exact⟨e,⟨h1,h2⟩,h3⟩
theorem Oe{P:Program}{n0:Nat}{g:G}{Q:Ex→G→Prop}(hm:P.follows .mixedOrders=true){id:Nat}{ops:Array Oper}{L:List (Rd×Dl)}(hc:r3 P ops ops.toList g L)(hi:indep ops.toList (L.map fun x=>j9 x.1 x.2)=true)
 (hk:Q .normal (yi g L)):W P n0 (.region id ops true) g Q:=by
 intro X ν a w hp hs
 have cZ:=hc.length
 have hsz:L.length=ops.size:=by simpa using cZ
 refine wp_region_any hm ?_
 have key:∀(fuel:Nat)(listed:Array Bool)(ν:Nat→Nm)(a:Act)(w:World),listed.size=ops.size→left listed ops.size≤fuel →
  (∀(k:Nat)(o:Oper),ops.toList[k]?=some o→listed.getD k false=true→∀j∈gB o,listed.getD j false=true) →
  Sat P X ν (Br (fun j=>listed.getD j false) 0 (L.map (·.2)) g) a w→wpAny P .any ops (CY P X Q) fuel listed a w:=by
  intro fuel
  have mr:∀(listed:Array Bool)(ν:Nat→Nm)(a:Act)(w:World),(∀j,j<ops.size→listed.getD j false=true)→Sat P X ν (Br (fun j=>listed.getD j false) 0 (L.map (·.2)) g) a w→CY P X Q .normal a w:=by
   intro listed ν a w h hs
   rw[Fj _ L 0 g (fun k hk=>by simp only[bV];exact h k (by omega))] at hs
   exact⟨_,ν,hk,hs⟩
  induction fuel with
  | zero=>
    intro listed ν a w hls hle hcl hs
    have hl:∀j,j<ops.size→listed.getD j false=true:=by
     intro j hj
     cases hq:listed.getD j false with
     | true=>rfl
     | false=>
       have:j∈(mf ops.size).filter fun j=>!listed.getD j false:=by simp only[cM,List.mem_range];exact⟨hj,by rw[hq];rfl⟩
       have hz:left listed ops.size=0:=by omega
       unfold left at hz
       rw[ba hz] at this
       simp at this
    refine⟨?_,mr listed ν a w hl hs⟩
    apply List.eq_nil_iff_forall_not_mem.2
    intro j hj
    rw[mem_ready] at hj
    obtain⟨h0,o,ho,_⟩:=hj
    have hjlt:j<ops.size:=(mh.1 ho).1
    rw[Bj (by omega),hl j hjlt] at h0
    cases h0
  | succ fuel ih=>
    intro listed ν a w hls hle hcl hs
    refine⟨fun hr=>mr listed ν a w (fun j hj=>?_) hs,fun i hir=>?_⟩
    ·-- nothing is ready: all is done
     induction j using Nat.strongRecOn with
     | _ j ihj=>
       cases hq:listed.getD j false with
       | true=>rfl
       | false=>
         have ho:ops[j]?=some ops[j]:=Array.getElem?_eq_getElem hj
         have:j∈Region.ready .any ops listed:=by
          rw[mem_ready]
          refine⟨by rw[Bj (by omega)];exact hq,ops[j],ho,fun e he hb=>?_⟩
          have kf:=(wF hi).1 j ops[j] (by simp) e.on (uN.2 ⟨e,he,hb,rfl⟩)
          exact ihj e.on kf (by omega)
         rw[hr] at this
         simp at this
    ·rw[mem_ready] at hir
     obtain⟨h0,o,ho,hd⟩:=hir
     have hilt:i<ops.size:=(mh.1 ho).1
     have hni:listed.getD i false=false:=by rw[←Bj (by omega)];exact h0
     have ho':ops.toList[i]?=some o:=by simpa using ho
     have hx:L[i]?=some L[i]:=ab (by omega)
     have hd':∀j∈gB o,listed.getD j false=true:=by
      intro j hj
      obtain⟨e,h1,h2,rfl⟩:=uN.1 hj
      exact hd e h1 h2
     obtain⟨hag,heq⟩:=HE cZ hi g (fun j=>listed.getD j false) hcl ho' hx hd' hni
     have dh:=hc.at i o L[i] ho' hx _ hag X ν a w (wpAny P .any ops (CY P X Q) fuel (listed.setIfInBounds i true)) (CY P X Q) hs fun ν' a' w' hs'=>?_
     ·unfold wpOp
      simp only[ho]
      by_cases hw:Region.wanted o (yielded ops a.tmps)=true
      ·simp only[hw,if_true] at dh⊢;exact .inl dh
      ·simp only[hw,if_false] at dh⊢;exact dh
     ·have hset:∀j,(listed.setIfInBounds i true).getD j false=(if j=i then true else listed.getD j false):=by
       intro j
       by_cases hji:j=i
       ·subst hji
        have:j<listed.size:=by omega
        simp[this]
       ·rw[getD_set_ne false (fun e=>hji e.symm)]
        simp[hji]
      refine ih _ ν' a' w' (by simp[hls]) ?_ (fun k o' hk' hSk j hj=>?_) ?_
      ·have:left (listed.setIfInBounds i true) ops.size<left listed ops.size:=by
        refine filter_lt (i:=i) (fun j hj=>?_) (by simp[hilt]) (by simp[hni]) (by rw[hset];simp)
        rw[hset] at hj
        by_cases hji:j=i
        ·simp[hji] at hj
        ·simpa[hji] using hj
       omega
      ·rw[hset] at hSk⊢
       split
       ·rfl
       ·by_cases OL:k=i
        ·subst OL
         obtain rfl:=Option.some.inj (ho'.symm.trans hk')
         exact hd' j hj
        ·simp only[OL,if_false] at hSk
         exact hcl k o' hk' hSk j hj
      ·have e2:(fun j=>(listed.setIfInBounds i true).getD j false)=(fun j=>if j=i then true else listed.getD j false):=funext hset
       rw[e2]
       exact hs'.eqv heq
 refine key ops.size (kY ops.size false) ν a _ (by simp) ?_ (fun k o hk hS=>?_) ?_
 ·unfold left
  have:=List.length_filter_le (fun j=>!(kY ops.size false).getD j false) (mf ops.size)
  rwa [List.length_range] at this
 ·have:(kY ops.size false).getD k false=false:=by
   simp only[bp,nc]
   split<;>rfl
  rw[this] at hS;cases hS
 ·rw[wS _ _ _ (fun k hk=>by
   simp only[bp,nc]
   split<;>rfl)]
  exact hs.drawn _
def WD(P:Program)(ops:Array Oper)(os:List Oper)(pre:List Ky)(g:G)(K:G→Prop):Prop:=
 ∃L,r3 P ops os g L∧indep ops.toList (pre++L.map fun x=>j9 x.1 x.2)=true∧K (yi g L)
theorem MW{P:Program}{ops:Array Oper}{pre:List Ky}{g:G}{K:G→Prop}(hi:indep ops.toList pre=true)(h:K g):WD P ops [] pre g K:=⟨[],.nil g,by simpa using hi,h⟩
theorem Lo{P:Program}{ops:Array Oper}{o:Oper}{os:List Oper}{pre:List Ky}{g:G}{K:G→Prop}{R:Rd}{δ:Dl}(h:yQ P ops o g R δ)(hr:WD P ops os (pre++[j9 R δ]) (g.app δ) K):WD P ops (o::os) pre g K:=by
 obtain⟨L,h1,h2,h3⟩:=hr
 exact⟨(R,δ)::L,.cons h h1,by simpa using h2,h3⟩
theorem KI{P:Program}{n0:Nat}{g:G}{Q:Ex→G→Prop}(hm:P.follows .mixedOrders=true){id:Nat}{ops:Array Oper}(h:WD P ops ops.toList [] g (Q .normal)):W P n0 (.region id ops true) g Q:=by
 obtain⟨L,h1,h2,h3⟩:=h
 exact Oe hm h1 (by simpa using h2) h3
end Go.Eng
