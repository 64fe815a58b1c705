/-
  The symbolic layer, ninth text: the rules of append, of slices that are made or cut, of structs that are built, of a store into a slice of the call's own.
-/
import Derived.Test.YtphcpjhkeipggaaGreatKBA
import Derived.Orders
set_option linter.unusedVariables false
set_option linter.unusedSimpArgs false
open Array renaming getD_eq_getD_getElem?→dp
open Bool renaming and_eq_true→ah,false_eq_true→au,or_eq_true→iH
open Int renaming toNat_natCast→bc
open List renaming getElem?_eq_getElem→af,mem_cons→az,getD_eq_getElem?_getD→aB,replicate→aE,mem_append→aO,map_cons→aV,length_cons→aY,getElem?_append_left→bF,range→bK,getElem?_eq_none→bM,getElem?_append_right→bO,eq_nil_of_length_eq_zero→bR,nil_append→bS,nodup_cons→da,range'→fk,filter_cons→fP,mem_filter→gy,replicate_succ→gF,getElem?_cons_zero→iV,getElem?_map→jx
open Nat renaming le_refl→aK,zero_le→bo,lt_or_ge→cz,add_mul→dx,zero_add→eu,lt_trichotomy→fV,add_zero→jw,lt_of_lt_of_le→jV,sub_self→mo
open Option renaming getD_some→cg,isSome_iff_exists→dA
namespace Go.Eng
open Go.RowKit
section
variable{E:Env}{g:G}{d:Nat}{ty:TypeId}{pos:String}{fK:Array Edge}{gd:Option (Nat×Bool)}{dn:Option Nat}
theorem wP{o:Oper}{s x:Operand}{t:TypeId}(ho:o.op= .call { callee:=.builtin .append,args:=#[s,x],argTypes:=#[t,t] })(a:Act)(w w':World)(v:Value)(h:(Builtin.append_ #[t,t] o.type #[a.eval s,a.eval x]).run E.P w= .ok v w') :
 (execOp a.eval o).run E.P w= .ok (.value v) w':=by
 unfold execOp
 simp only[ho,resolve,invoke,builtin,Sem.run_bind,Sem.run_pure,Result.andThen_ok,List.map_toArray,aV,List.map_nil,h]
theorem Yi{P:Program}{X:Cx}{ν:Nat→Nm}{g:G}{a:Act}{w:World}(h:Sat P X ν g a w){k e:Nat}{ys:List (List D)}(hk:g.at k=some (.aX e ys)) :
 ∃vs,de w (dk X ν g.at) (P.cellsOf e) ys vs∧BS w (ν k).v vs∧ys.length≤LB:=by
 obtain⟨vs,ho,hr,hl,_⟩:=h.en k _ hk
 refine⟨vs,hr,?_,hl⟩
 rcases ho.2 with⟨h1,h2⟩|⟨b,cap,cur,h1,_⟩
 ·left
  refine⟨⟨none,0,h1⟩,?_⟩
  have:=hr.len
  rw[h2] at this
  exact bR this
 ·right
  exact⟨b,0,cap,by rw[h1,hr.len],sr ho h1⟩
theorem YH{w:World}{ok:Nat→Prop}{ys:List (List D)}{v:Value}(h:jD w ok (.eC ys) v)(lj:ys≠[])(sz:Nat)(hz:∀y∈ys,y.length=sz) :
 ∃vs,de w ok sz ys vs∧BS w v vs∧ys.length≤LB:=by
 rcases h.zz with⟨rfl,_⟩|⟨us,b,off,cap,sz',h1,_,_,_,_,hB,kS,hc⟩
 ·exact(lj rfl).elim
 ·have:sz'=sz:=by
   cases ys with
   | nil=>exact(lj rfl).elim
   | cons y ys=>rw[←kS.hx 0 y rfl];exact hz y (by simp)
  subst this
  exact⟨us,kS,.inr ⟨b,off,cap,by rw[h1,kS.len],hc⟩,hB⟩
def Ay(E:Env)(sz:Nat)(g:G)(p:PV)(ys:List (List D)):Prop:=
 (p= .bW∧ys=[])∨(p= .d (.eC ys)∧(∀y∈ys,y.length=sz))∨(∃k e ei,p= .aX k∧g.at k=some (.aX e ys)∧E.ti e=some ei∧ei.n=sz)∨(∃a c,p= .d (.val (.slice (some a) 0 c))∧ys=[])
theorem V4{w:World}{ok:Nat→Prop}{ys:List (List D)}{v:Value}(h:jD w ok (.eC ys) v)(sz:Nat)(hz:∀y∈ys,y.length=sz) :
 ∃vs,de w ok sz ys vs∧BS w v vs∧ys.length≤LB:=by
 by_cases lj:ys=[]
 ·subst lj
  refine⟨[],de.nil w ok sz,?_,by simp⟩
  rcases h.zz with⟨_,a,c,h1,_⟩|⟨us,b,off,cap,sz',h1,_,_,_,_,hB,kS,hc⟩
  ·exact .inl ⟨⟨a,c,h1⟩,rfl⟩
  ·have:us=[]:=bR kS.len
   subst this
   exact .inr ⟨b,off,cap,h1,hc⟩
 ·exact YH h lj sz hz
theorem zp{P0:Program}{X:Cx}{ν:Nat→Nm}{g:G}{a:Act}{w:World}{sz:Nat}{p:PV}{ys:List (List D)}{v:Value}(h:Sat E.P X ν g a w)(ha:Ay E sz g p ys)(hv:aJ w (dk X ν g.at) ν g.at p v) :
 ∃vs,de w (dk X ν g.at) sz ys vs∧BS w v vs∧ys.length≤LB:=by
 rcases ha with⟨rfl,rfl⟩|⟨rfl,hz⟩|⟨k,e,ei,rfl,hk,he,hz⟩|⟨a,c,rfl,rfl⟩
 ·simp only[aJ] at hv
  exact⟨[],de.nil w _ sz,.inl ⟨⟨_,_,hv⟩,rfl⟩,by simp⟩
 ·simp only[aJ] at hv
  exact V4 hv sz hz
 ·simp only[aJ] at hv
  rw[hv.2,←hz,← (E.ok e ei he).cells]
  exact Yi h hk
 ·simp only[aJ] at hv
  exact⟨[],de.nil w _ sz,.inl ⟨⟨_,_,hv.Ju⟩,rfl⟩,by simp⟩
def Cj:PV→List Nat
 | .aX k=>[k]
 | _=>[]
theorem Ay.agree{R:Rd}{g g2:G}(h:FF R g g2){sz:Nat}{p:PV}{ys:List (List D)}(hp:∀k∈Cj p,k∈R.p)(ha:Ay E sz g p ys):Ay E sz g2 p ys:=by rcases ha with h1|h1|⟨k,e,ei,rfl,hk,he,hz⟩|h1;exact .inl h1;exact .inr (.inl h1);exact .inr (.inr (.inl ⟨k,e,ei,rfl,(h.p k (hp k (by simp[Cj]))).trans hk,he,hz⟩));exact .inr (.inr (.inr h1))
theorem MK(s x:Operand)(t e k':Nat)(ti ei:TI)(p:PV)(ys:List (List D))(ht:E.ti t=some ti)(mI:ti.ty= .slice e)(he:E.ti e=some ei)(hs:g.ev s= .bW)(hx:g.ev x=p)(ha:Ay E ei.n g p ys)(hk':g.at k'=none)
 (hlb:ys.length≤LB) (hby:ys.length*ei.bytes≤140737488355328) :
 mM E.P ⟨some d,.call ⟨.builtin .append,#[s,x],#[t,t]⟩,ty,pos,fK,gd⟩ g ⟨ez s++ez x,k'::Cj p⟩ ⟨some (d,.aX k'),[(k',.aX e ys)]⟩:=by
 intro g2 hg
 have e1:=hg.ev (x:=s) (fun t h=>by simp[h])
 have e2:=hg.ev (x:=x) (fun t h=>by simp[h])
 have h3:=(hg.p k' (by simp)).trans hk'
 have ha2:=ha.agree hg (fun k h=>by simp[h])
 intro X ν a w next Q je hn
 have hv:=je.ev s
 rw[e1,hs] at hv
 have oI:=je.ev x
 rw[e2,hx] at oI
 simp only[aJ] at hv
 obtain⟨vs,kS,hsl,_⟩:=zp (P0:=E.P) je ha2 oI
 obtain⟨v',w',k1,k2,k3,k4⟩:=rk ht mI he w ty (.slice none 0 0) (a.eval x) 0 [] ys vs _ (World.ownsRow_nil w 0 e ei.n) kS hsl oM (by simpa using hby)
 have hr:=wP (E:=E) (o:=⟨some d,.call ⟨.builtin .append,#[s,x],#[t,t]⟩,ty,pos,fK,gd⟩) rfl a w w' v' (by rw[hv];exact k1)
 unfold Oper.wp
 rw[hr,Oper.upon_value]
 simp only[eu,bS] at k2
 refine hn _ _ _ (je.Bj (k3.mono fun b hb _=>by simp[zV] at hb) k' h3 (.aX e ys) ⟨v',[]⟩ ?_ (fun b hb=>(k4 b ((mi rfl).1 hb)).resolve_left (by simp[zV])) d _ _ ?_ ?_)
 ·show v'.oneCell'=true
  rcases k2.2 with⟨h,_⟩|⟨b,c,cur,h,_⟩<;>rw[h]<;>rfl
 ·intro ok st ν' hν hw hm
  refine⟨vs,by rw[hν,(E.ok e ei he).cells];exact k2,?_,hlb,by rw[hν]⟩
  rw[(E.ok e ei he).cells]
  exact kS.frame hw k3.size
 ·intro ok st ν' hν ld hw hm
  simp only[aJ]
  exact⟨by rw[ld];rfl,by rw[hν]⟩
theorem Nt(s x:Operand)(t e k k':Nat)(ti ei:TI)(p:PV)(xs ys:List (List D))(ht:E.ti t=some ti)(mI:ti.ty= .slice e)(he:E.ti e=some ei)(hs:g.ev s= .aX k)(hk:g.at k=some (.aX e xs))(hx:g.ev x=p)(ha:Ay E ei.n g p ys)(hk':g.at k'=none)
 (hlb:xs.length+ys.length≤LB) (hby:(xs.length+ys.length)*ei.bytes≤140737488355328) :
 mM E.P ⟨some d,.call ⟨.builtin .append,#[s,x],#[t,t]⟩,ty,pos,fK,gd⟩ g ⟨ez s++ez x,k::k'::Cj p⟩ ⟨some (d,.aX k'),[(k,.dead),(k',.aX e (xs++ys))]⟩:=by
 intro g2 hg
 have e1:=hg.ev (x:=s) (fun t h=>by simp[h])
 have e2:=hg.ev (x:=x) (fun t h=>by simp[h])
 have h2:=(hg.p k (by simp)).trans hk
 have h3:=(hg.p k' (by simp)).trans hk'
 have ha2:=ha.agree hg (fun k h=>by simp[h])
 intro X ν a w next Q je hn
 have hv:=je.ev s
 rw[e1,hs] at hv
 have oI:=je.ev x
 rw[e2,hx] at oI
 simp only[aJ] at hv
 obtain⟨vs,kS,hsl,_⟩:=zp (P0:=E.P) je ha2 oI
 obtain⟨us,jU,hru,_⟩:=je.en k _ h2
 rw[(E.ok e ei he).cells] at jU hru
 obtain⟨v',w',k1,k2,k3,k4⟩:=rk ht mI he w ty (ν k).v (a.eval x) xs.length us.flatten ys vs _ jU kS hsl hlb hby
 have hr:=wP (E:=E) (o:=⟨some d,.call ⟨.builtin .append,#[s,x],#[t,t]⟩,ty,pos,fK,gd⟩) rfl a w w' v' (by rw[hv.2];exact k1)
 unfold Oper.wp
 rw[hr,Oper.upon_value]
 refine hn _ _ _ (je.move (some k) (fun j hj=>⟨_,by obtain rfl:=Option.some.inj hj;exact h2,rfl⟩) (k3.mono fun b hb _=>⟨k,rfl,.inl hb⟩) k' h3 (.aX e (xs++ys)) ⟨v',[]⟩ ?_
  (fun b hb=>(k4 b ((mi rfl).1 hb)).imp (fun h=>⟨k,rfl,.inl h⟩) id) d _ _ ?_ ?_)
 ·show v'.oneCell'=true
  rcases k2.2 with⟨h,_⟩|⟨b,c,cur,h,_⟩<;>rw[h]<;>rfl
 ·intro ok st ν' hν hw hm
  refine⟨us++vs,?_,?_,by simpa using hlb,by rw[hν]⟩
  ·rw[hν,(E.ok e ei he).cells,List.length_append,List.flatten_append];exact k2
  ·rw[(E.ok e ei he).cells]
   exact(hru.append kS).frame hw k3.size
 ·intro ok st ν' hν ld hw hm
  simp only[aJ]
  exact⟨by rw[ld];rfl,by rw[hν]⟩
theorem de.replicate{w:World}{ok:Nat→Prop}{sz:Nat}{x:List D}{u:List Value}(m:Nat)(hx:x.length=sz)(hu:u.length=sz)
 (hr:∀(j:Nat)(d:D)(v:Value),x[j]?=some d→u[j]?=some v→jD w ok d v):de w ok sz (aE m x) (aE m u):=by
 induction m with
 | zero=>exact de.nil _ _ _
 | succ m ih=>exact ih.cons hx hu hr
theorem NK(z:List Value)(hz:0<z.length):∀n,(madeCells ⟨z⟩ (n*z.length)).toList=(aE n z).flatten:=by
 intro n;apply List.ext_getElem?;intro j;have h1:((aE n z).flatten)[j]?=if j<n*z.length then z[j % z.length]? else none:=by
  induction n generalizing j with
  | zero=>simp
  | succ n ih=>
   rw[gF,List.flatten_cons];by_cases hj:j<z.length;rw[bF hj,Nat.mod_eq_of_lt hj,if_pos (by rw[dx];omega)];rw[bO oM,ih,dx];have e:j % z.length=(j-z.length) % z.length:=by
    conv=>lhs;rw[show j=(j-z.length)+z.length from by omega]
    rw[Nat.add_mod_right]
   rw[e];by_cases hc:j-z.length<n*z.length;rw[if_pos hc,if_pos oM];rw[if_neg hc,if_neg oM]
 rw[h1];have hm:j % z.length<z.length:=Nat.mod_lt _ hz;simp only[madeCells,Array.toList_map,Array.toList_range,jx];by_cases hj:j<n*z.length;rw[List.getElem?_range hj,if_pos hj];simp only[Option.map_some,List.size_toArray,af hm];congr 1;rw[getElem!_pos _ _ (by simpa using hm)];simp;rw[bM (by simpa using hj),if_neg hj];rfl
theorem aei(l c:Operand)(t e k:Nat)(ti ei:TI)(n:Int)(z:List D)(ht:E.ti t=some ti)(mI:ti.ty= .slice e)(he:E.ti e=some ei)(hz:Dp ei.zero=some z)(hl:g.ev l= .d (.val (.int .i64 n)))(hc:g.ev c= .d (.val (.int .i64 n)))
 (hk:g.at k=none) (h0:0≤n) (hlb:n.toNat≤LB) (hby:ei.bytes*n.toNat≤281474976710656) :
 mM E.P ⟨some d,.makeSlice t l c,ty,pos,fK,gd⟩ g ⟨ez l++ez c,[k]⟩ ⟨some (d,.aX k),[(k,.aX e (aE n.toNat z))]⟩:=by
 intro g2 hg
 have e1:=hg.ev (x:=l) (fun t h=>by simp[h])
 have e2:=hg.ev (x:=c) (fun t h=>by simp[h])
 have h3:=(hg.p k (by simp)).trans hk
 intro X ν a w next Q je hn
 have hv:=je.ev l
 rw[e1,hl] at hv
 have oI:=je.ev c
 rw[e2,hc] at oI
 have hv:=ig hv
 have oI:=ig oI
 have hu:=(E.ok t ti ht).ty
 rw[mI] at hu
 obtain⟨i,zv,i1,i2,i3,i4,i5,i6⟩:=(E.ok e ei he).info
 have hpos:=(E.ok e ei he).pos
 obtain⟨m,rfl⟩:∃m:Nat,n=m:=⟨n.toNat,oM⟩
 simp only[bc] at hlb hby⊢
 have hml:(m:Int)≤9223372036854775807:=by unfold LB at hlb;omega
 have hbb:(i.bytes:Int)*(m:Int)≤281474976710656:=by rw[i3,←Int.natCast_mul];omega
 have hr:=run_make (P:=E.P) w t e i zv hu i1 i4 .i64 .i64 m m oM (Int.le_refl _) hbb hml
 simp only[bc] at hr
 have rA:=World.ownsRow_lit w (e:=e) (madeCells zv.cells (m*i.size)) m (base:=0) (size:=i.size) (bo _) (by simp only[maxLen];unfold LB at hlb;omega) (size_madeCells _ _)
 have ou:(execOp a.eval ⟨some d,.makeSlice t l c,ty,pos,fK,gd⟩).run E.P w= .ok (.value (.slice (some ⟨w.heap.size,0,none⟩) m m)) (w.alloc (.cells (madeCells zv.cells (m*i.size)) e)):=by simp only[execOp,hv,oI,Sem.run_bind,hr,Result.andThen_ok];rfl
 have hzl:zv.cells.toList.length=ei.n:=by simpa using i6
 have hflat:(madeCells zv.cells (m*i.size)).toList=(aE m zv.cells.toList).flatten:=by have:=NK zv.cells.toList oM m;rw[←this,i2,hzl]
 unfold Oper.wp
 rw[ou,Oper.upon_value]
 refine hn _ _ _ (je.Bj (lE w _) k h3 (.aX e (aE m z)) ⟨.slice (some ⟨w.heap.size,0,none⟩) m m,[]⟩ rfl (fun b hb=>?_) d _ _ ?_ ?_)
 ·obtain rfl:w.heap.size=b:=by simpa[Nm.has,zV] using hb
  exact aK _
 ·intro ok st ν' hν hw hm
  have hzr:aH (w.alloc (.cells (madeCells zv.cells (m*i.size)) e)) ok ν' st (dm z) zv.cells.toList:=AM (xX _ _ _ _ zv.cells.toList) (by rw[i5];exact hz)
  obtain⟨hz1,hz2⟩:=Fo hzr
  refine⟨aE m zv.cells.toList,?_,?_,by simpa using hlb,by rw[hν]⟩
  ·rw[hν,(E.ok e ei he).cells,←hflat,←i2,List.length_replicate]
   exact rA
  ·rw[(E.ok e ei he).cells]
   exact de.replicate m (by rw[←hz1];exact hzl) hzl hz2
 ·intro ok st ν' hν ld hw hm
  simp only[aJ]
  exact⟨by rw[ld];rfl,by rw[hν]⟩
end
def IJ(P:Program)(ops:Array Oper)(o:Oper)(g:G)(R:Rd)(δ:Dl):Prop:=
 ∀g2,FF R g g2→∀(X:Cx)(ν:Nat→Nm)(a:Act)(w:World)(next:Act→World→Prop)(Q:Exit→Act→World→Prop),
  Sat P X ν g2 a w→(∀ν' a' w',Sat P X ν' (g2.app δ) a' w'→next a' w') →
  (if Region.wanted o (yielded ops a.tmps) then o.wp P a w next Q else next (a.put o.dst Go.undef) w)
theorem IJ.plain{P:Program}{ops:Array Oper}{o:Oper}{g:G}{R:Rd}{δ:Dl}(hg:o.guard=none)(h:mM P o g R δ):IJ P ops o g R δ:=by
 intro g2 ha X ν a w next Q hs hn
 rw[if_pos (by simp[Region.wanted,hg])];exact h g2 ha X ν a w next Q hs hn
theorem Sat.NI{P:Program}{X:Cx}{ν:Nat→Nm}{g:G}{a:Act}{w:World}(h:Sat P X ν g a w){t:Nat}{b:Bool}(ht:nth g.sl t= .d (.val (.bool b))):a.tmps[t]?=some (.bool b):=by
 have hv:=h.sl t;rw[ht] at hv;have hv:=ig hv;rw[dp] at hv;cases hq:a.tmps[t]? with
 | none=>rw[hq] at hv;cases hv
 | some v=>rw[hq] at hv;simp only[cg] at hv;rw[hv]
def H8(ops:Array Oper)(j:Nat):Option Nat:=(ops[j]?).bind (·.dst)
theorem IJ.run{P:Program}{ops:Array Oper}{o:Oper}{g:G}{R:Rd}{δ:Dl}{j t:Nat}{b:Bool}(hg:o.guard=some (j,b))(hj:H8 ops j=some t)(ht:nth g.sl t= .d (.val (.bool b)))
 (h:mM P o g R δ):IJ P ops o g ⟨t::R.s,R.p⟩ δ:=by
 intro g2 ha X ν a w next Q hs hn
 have e:=(ha.s t (by simp)).trans ht
 have hb:=hs.NI e
 have hy:yielded ops a.tmps j=some b:=by unfold H8 at hj;simp[yielded,hj,hb]
 rw[if_pos (by simp[Region.wanted,hg,hy])]
 exact h g2 ⟨fun t ht=>ha.s t (by simp[ht]),ha.p⟩ X ν a w next Q hs hn
theorem IJ.skip{P:Program}{ops:Array Oper}{o:Oper}{g:G}{j t d:Nat}{b c:Bool}(hg:o.guard=some (j,b))(hj:H8 ops j=some t)(ht:nth g.sl t= .d (.val (.bool c)))(hc:c≠b)(hd:o.dst=some d) :
 IJ P ops o g ⟨[t],[]⟩ ⟨some (d,.undef),[]⟩:=by
 intro g2 ha X ν a w next Q hs hn
 have e:=(ha.s t (by simp)).trans ht
 have hb:=hs.NI e
 have hy:yielded ops a.tmps j=some c:=by unfold H8 at hj;simp[yielded,hj,hb]
 rw[if_neg (by simp[Region.wanted,hg,hy,hc])]
 rw[hd]
 exact hn ν _ _ (hs.put d (by simp only[aJ]))
theorem IJ.ahj{P:Program}{ops:Array Oper}{o:Oper}{g:G}{j t d:Nat}{b:Bool}(hg:o.guard=some (j,b))(hj:H8 ops j=some t)(ht:nth g.sl t= .undef)(hd:o.dst=some d) :
 IJ P ops o g ⟨[t],[]⟩ ⟨some (d,.undef),[]⟩:=by
 intro g2 ha X ν a w next Q hs hn
 have e:=(ha.s t (by simp)).trans ht
 have hv:=hs.sl t
 rw[e] at hv
 simp only[aJ] at hv
 have hy:yielded ops a.tmps j=none:=by
  unfold H8 at hj;have:∀c,a.tmps[t]?≠some (.bool c):=(by intro c hc;rw[dp,hc] at hv;cases hv);cases hq:a.tmps[t]? with
  | none=>simp[yielded,hj,hq]
  | some v=>
   cases v<;>first
    | exact(this _ hq).elim
    | simp[yielded,hj,hq]
 rw[if_neg (by simp[Region.wanted,hg,hy])]
 rw[hd]
 exact hn ν _ _ (hs.put d (by simp only[aJ]))
def agJ(P:Program)(ops:Array Oper)(is:List Nat)(g:G)(K:G→Prop):Prop:=
 ∀(X:Cx)(ν:Nat→Nm)(a:Act)(w:World)(Q:Exit→Act→World→Prop),Sat P X ν g a w→(∀g' ν' a' w',K g'→Sat P X ν' g' a' w'→Q .normal a' w')→wpOps P ops Q is a w
def WO(P:Program)(ops:Array Oper)(os:List Oper)(g:G)(K:G→Prop):Prop:=
 ∀i,(∀j o,os[j]?=some o→ops[i+j]?=some o)→agJ P ops (fk i os.length) g K
theorem xp{P:Program}{ops:Array Oper}{g:G}{K:G→Prop}(h:K g):WO P ops [] g K:=by intro i _ X ν a w Q hs hn;simp only[List.length_nil,List.range'_zero,wpOps];exact hn g ν a w h hs
theorem wR{P:Program}{ops:Array Oper}{o:Oper}{os:List Oper}{g:G}{K:G→Prop}{R:Rd}{δ:Dl}(h:IJ P ops o g R δ)(hr:WO P ops os (g.app δ) K):WO P ops (o::os) g K:=by intro i hi X ν a w Q hs hn;have ho:ops[i]?=some o:=hi 0 o rfl;simp only[aY,List.range'_succ,wpOps,ho];have hrest:=hr (i+1) (fun j o' hj=>by have:=hi (j+1) o' (by simpa using hj);rw[show i+1+j=i+(j+1) from by omega];exact this);have key:=h g ⟨fun _ _=>rfl,fun _ _=>rfl⟩ X ν a w (wpOps P ops Q (fk (i+1) os.length)) Q hs (fun ν' a' w' hs'=>hrest X ν' a' w' Q hs' hn);by_cases hw:Region.wanted o (yielded ops a.tmps)=true;simp only[hw,if_true] at key⊢;exact .inl key;simp only[hw,if_false] at key⊢;exact key
theorem ZM{P:Program}{ops:Array Oper}{g:G}{K:G→Prop}(h:WO P ops ops.toList g K):agJ P ops (bK ops.size) g K:=by have:=h 0 (fun j o hj=>by simpa using hj);rw[List.range_eq_range'];simpa using this
inductive Ex where
 | normal|exit (id:Nat)|ret
def TP(P:Program)(X:Cx)(Q:Ex→G→Prop):Exit→Act→World→Prop
 | .normal,a,w=>∃g ν,Q .normal g∧Sat P X ν g a w
 | .exit id,a,w=>∃g ν,Q (.exit id) g∧Sat P X ν g a w
 | .ret,a,w=>∃g ν,Q .ret g∧Sat P X ν g a w
 | _,_,_=>False
def Par(X:Cx)(n0:Nat):Prop:=∀k,(X.st0 k).isSome=true→k<n0
def W(P:Program)(n0:Nat)(c:Code)(g:G)(Q:Ex→G→Prop):Prop:=
 ∀(X:Cx)(ν:Nat→Nm)(a:Act)(w:World),Par X n0→Sat P X ν g a w→c.wp P (TP P X Q) a w
section
variable{P:Program}{n0:Nat}{g:G}{Q:Ex→G→Prop}
theorem ae8(h:Q .normal g):W P n0 .skip g Q:=fun _ ν _ _ _ hs=>wp_skip ⟨g,ν,h,hs⟩
theorem agh{id:Nat}(h:Q (.exit id) g):W P n0 (.exit id) g Q:=fun _ ν _ _ _ hs=>wp_exit ⟨g,ν,h,hs⟩
theorem Xu(h:Q .ret g):W P n0 .ret g Q:=fun _ ν _ _ _ hs=>wp_ret ⟨g,ν,h,hs⟩
def XH(K:G→Prop)(Q:Ex→G→Prop):Ex→G→Prop
 | .normal,g=>K g
 | .exit id,g=>Q (.exit id) g
 | .ret,g=>Q .ret g
theorem fE{a b:Code}(h:W P n0 a g (XH (fun g'=>W P n0 b g' Q) Q)):W P n0 (.seq a b) g Q:=by
 intro X ν ac w hp hs;refine wp_seq (wp_mono (h X ν ac w hp hs) fun e a' w' hl=>?_);cases e with
 | normal=>obtain⟨g',ν',h1,h2⟩:=hl;exact h1 X ν' a' w' hp h2
 | exit id=>exact hl
 | ret=>exact hl
 | goto l=>exact hl
 | panic c=>exact hl
 | outgrown=>exact hl
theorem QI{c:Operand}{x y:Code}{b:Bool}(hc:g.ev c= .d (.val (.bool b)))(ht:b=true→W P n0 x g Q)(hf:b=false→W P n0 y g Q):W P n0 (.cond c x y) g Q:=by intro X ν a w hp hs;have hv:=hs.ev c;rw[hc] at hv;exact wp_cond_split (ig hv) (fun h=>ht h X ν a w hp hs) (fun h=>hf h X ν a w hp hs)
def GY(id:Nat)(Q:Ex→G→Prop):Ex→G→Prop
 | .normal,g=>Q .normal g
 | .exit i,g=>if i=id then Q .normal g else Q (.exit i) g
 | .ret,g=>Q .ret g
theorem Jl{id:Nat}{c:Code}(h:W P n0 c g (GY id Q)):W P n0 (.block id c) g Q:=by
 intro X ν a w hp hs;refine wp_block (wp_mono (h X ν a w hp hs) fun e a' w' hl=>?_);cases e with
 | exit i=>obtain⟨g',ν',h1,h2⟩:=hl;simp only[GY] at h1;simp only[Exit.inBlock];by_cases hi:i=id;rw[if_pos hi] at h1⊢;exact⟨g',ν',h1,h2⟩;rw[if_neg hi] at h1⊢;exact⟨g',ν',h1,h2⟩
 | normal=>exact hl
 | ret=>exact hl
 | goto l=>exact hl
 | panic c=>exact hl
 | outgrown=>exact hl
theorem pR{id:Nat}{ops:Array Oper}(h:WO P ops ops.toList g (Q .normal)):W P n0 (.region id ops false) g Q:=by intro X ν a w hp hs;exact wp_region (ZM h X ν a w _ hs fun g' ν' a' w' hk hs'=>⟨g',ν',hk,hs'⟩)
def pS(P:Program)(n0:Nat)(g g':G):Prop:=∀(X:Cx)(ν:Nat→Nm)(a:Act)(w:World),Par X n0→Sat P X ν g a w→∃ν',Sat P X ν' g' a w
theorem pS.refl(g:G):pS P n0 g g:=fun _ ν _ _ _ h=>⟨ν,h⟩
theorem pS.trans{g1 g2 g3:G}(h:pS P n0 g1 g2)(h':pS P n0 g2 g3):pS P n0 g1 g3:=fun X ν a w hp hs=>
 let ⟨ν',hs'⟩:=h X ν a w hp hs;h' X ν' a w hp hs'
def N7{α:Type}(P:Program)(n0:Nat)(T:α→G)(μ:α→Nat)(x:α)(Q:Ex→G→Prop):Ex→G→Prop
 | .normal,g=>∃y,μ y < μ x∧pS P n0 g (T y)
 | .exit id,g=>Q (.exit id) g
 | .ret,g=>Q .ret g
open Classical in
theorem aai{α:Type}{c:Code}(T:α→G)(μ:α→Nat)(x0:α)(h0:pS P n0 g (T x0))(round:∀x,W P n0 c (T x) (N7 P n0 T μ x Q)):W P n0 (.loop c) g Q:=by
 intro X ν a w hp hs;let S:Act→World→Nat→Prop:=fun a w n=>∃x ν,μ x=n∧Sat P X ν (T x) a w;have hleast:∀a w,(∃n,S a w n)→∃n,S a w n∧∀m,S a w m→n≤m:=by
  intro a w ⟨n,hn⟩;induction n using Nat.strongRecOn with
  | _ n ih=>by_cases hm:∃m,S a w m∧m<n;obtain⟨m,h1,h2⟩:=hm;exact ih m h2 h1;refine⟨n,hn,fun m h1=>?_⟩;rcases cz m n with h2|h2;exact(hm ⟨m,h1,h2⟩).elim;exact h2
 let M:Act→World→Nat:=fun a w=>if h:∃n,S a w n then Classical.choose (hleast a w h) else 0
 have hM:∀a w,(∃n,S a w n)→S a w (M a w)∧∀m,S a w m→M a w≤m:=by intro a w h;have:M a w=Classical.choose (hleast a w h):=dif_pos h;rw[this];exact Classical.choose_spec (hleast a w h)
 obtain⟨ν',hs'⟩:=h0 X ν a w hp hs;refine wp_loop (fun a w=>∃n,S a w n) M ⟨_,x0,ν',rfl,hs'⟩ fun a w hI=>?_;obtain⟨⟨x,ν,hx,hsx⟩,hmin⟩:=hM a w hI;refine wp_mono (round x X ν a w hp hsx) fun e a' w' hl=>?_;cases e with
 | normal=>obtain⟨g',ν',⟨y,hy,hwk⟩,h2⟩:=hl;obtain⟨ν2,h3⟩:=hwk X ν' a' w' hp h2;have hS:S a' w' (μ y):=⟨y,ν2,rfl,h3⟩;refine⟨⟨_,hS⟩,?_⟩;have:=(hM a' w' ⟨_,hS⟩).2 _ hS;omega
 | exit id=>exact hl
 | ret=>exact hl
 | goto l=>exact hl
 | panic c=>exact hl
 | outgrown=>exact hl
end
def look:List Nat→Nat→Nat
 | [],_=>0
 | a::_,0=>a
 | _::as,n+1=>look as n
mutual
def PV.nZ(m:List Nat):PV→PV
 | .any=>.any
 | .undef=>.undef
 | .bW=>.bW
 | .d x=>.d x
 | .agg cs=>.agg (tu m cs)
 | .iZ cs=>.iZ (tu m cs)
 | .bA k off=>.bA (look m k) off
 | .aX k=>.aX (look m k)
 | .jg k i off sz=>.jg (look m k) i off sz
 | .ib xs i off=>.ib xs i off
 | .fn f cap=>.fn f (tu m cap)
def tu(m:List Nat):List PV→List PV
 | []=>[]
 | p::ps=>p.nZ m::tu m ps
end
mutual
def PV.lt(n:Nat):PV→Bool
 | .agg cs=>wj n cs
 | .iZ cs=>wj n cs
 | .bA k _=>decide (k<n)
 | .aX k=>decide (k<n)
 | .jg k _ _ _=>decide (k<n)
 | .fn _ cap=>wj n cap
 | _=>true
def wj(n:Nat):List PV→Bool
 | []=>true
 | p::ps=>p.lt n&&wj n ps
end
mutual
def T.nZ(m:List Nat):T→T
 | .fM d=>.fM d
 | .ref j=>.ref (look m j)
 | .own e xs=>.own e (mO m xs)
def nV(m:List Nat):List T→List T
 | []=>[]
 | t::ts=>t.nZ m::nV m ts
def mO(m:List Nat):List (List T)→List (List T)
 | []=>[]
 | x::xs=>nV m x::mO m xs
end
mutual
def T.lt(n:Nat):T→Bool
 | .fM _=>true
 | .ref j=>decide (j<n)
 | .own _ xs=>KA n xs
def Jo(n:Nat):List T→Bool
 | []=>true
 | t::ts=>t.lt n&&Jo n ts
def KA(n:Nat):List (List T)→Bool
 | []=>true
 | x::xs=>Jo n x&&KA n xs
end
def En.nZ(m:List Nat):En→En
 | .box cs=>.box (tu m cs)
 | .aX e xs=>.aX e xs
 | .gD e xs=>.gD e (mO m xs)
 | .map wu=>.map wu
 | .dead=>.dead
def En.lt(n:Nat):En→Bool
 | .box cs=>wj n cs
 | .gD _ xs=>KA n xs
 | _=>true
theorem En.tf(m:List Nat)(e:En):(e.nZ m).live=e.live:=by cases e<;>rfl
section
variable{w:World}{ok:Nat→Prop}{ν ν':Nat→Nm}{st st':Nat→Option En}{m:List Nat}
mutual
theorem aJ.lh(h:∀i,(st' i).isSome=true→ν (look m i)=ν' i∧(st (look m i)).isSome=true):∀(p:PV)(v:Value),aJ w ok ν' st' p v→aJ w ok ν st (p.nZ m) v
 | .any,_,_=>by simp[PV.nZ,aJ]
 | .undef,_,hv=>by simpa[PV.nZ,aJ] using hv
 | .bW,_,hv=>by simpa[PV.nZ,aJ] using hv
 | .d x,_,hv=>by simpa[PV.nZ,aJ] using hv
 | .agg cs,v,hv=>by simp only[PV.nZ,aJ] at hv⊢;obtain⟨vs,e,hv⟩:=hv;exact⟨vs,e,aH.lh h cs vs hv⟩
 | .iZ cs,v,hv=>by simp only[PV.nZ,aJ] at hv⊢;obtain⟨vs,e,hv⟩:=hv;exact⟨vs,e,aH.lh h cs vs hv⟩
 | .bA k off,v,hv=>by simp only[PV.nZ,aJ] at hv⊢;rw[(h k hv.1).1];exact⟨(h k hv.1).2,hv.2⟩
 | .aX k,v,hv=>by simp only[PV.nZ,aJ] at hv⊢;rw[(h k hv.1).1];exact⟨(h k hv.1).2,hv.2⟩
 | .jg k i off sz,v,hv=>by simp only[PV.nZ,aJ] at hv⊢;rw[(h k hv.1).1];exact⟨(h k hv.1).2,hv.2⟩
 | .ib xs i off,v,hv=>by simpa[PV.nZ,aJ] using hv
 | .fn f cap,v,hv=>by simp only[PV.nZ,aJ] at hv⊢;obtain⟨vs,e,hv⟩:=hv;exact⟨vs,e,aH.lh h cap vs hv⟩
theorem aH.lh(h:∀i,(st' i).isSome=true→ν (look m i)=ν' i∧(st (look m i)).isSome=true):∀(ps:List PV)(vs:List Value),aH w ok ν' st' ps vs→aH w ok ν st (tu m ps) vs
 | [],[],_=>by simp[tu,aH]
 | [],_::_,hv=>by simp[aH] at hv
 | _::_,[],hv=>by simp[aH] at hv
 | p::ps,v::vs,hv=>by simp only[tu,aH] at hv⊢;exact⟨aJ.lh h p v hv.1,aH.lh h ps vs hv.2⟩
end
mutual
theorem aJ.nD{n:Nat}(h:∀i,i<n→(st (look m i)).isSome=true→ν (look m i)=ν' i∧(st' i).isSome=true):∀(p:PV)(v:Value),p.lt n=true→aJ w ok ν st (p.nZ m) v→aJ w ok ν' st' p v
 | .any,_,_,_=>by simp[aJ]
 | .undef,_,_,hv=>by simpa[PV.nZ,aJ] using hv
 | .bW,_,_,hv=>by simpa[PV.nZ,aJ] using hv
 | .d x,_,_,hv=>by simpa[PV.nZ,aJ] using hv
 | .agg cs,v,hl,hv=>by simp only[PV.nZ,aJ,PV.lt] at hv hl⊢;obtain⟨vs,e,hv⟩:=hv;exact⟨vs,e,aH.nD h cs vs hl hv⟩
 | .iZ cs,v,hl,hv=>by simp only[PV.nZ,aJ,PV.lt] at hv hl⊢;obtain⟨vs,e,hv⟩:=hv;exact⟨vs,e,aH.nD h cs vs hl hv⟩
 | .bA k off,v,hl,hv=>by simp only[PV.nZ,aJ,PV.lt,decide_eq_true_eq] at hv hl⊢;rw[← (h k hl hv.1).1];exact⟨(h k hl hv.1).2,hv.2⟩
 | .aX k,v,hl,hv=>by simp only[PV.nZ,aJ,PV.lt,decide_eq_true_eq] at hv hl⊢;rw[← (h k hl hv.1).1];exact⟨(h k hl hv.1).2,hv.2⟩
 | .jg k i off sz,v,hl,hv=>by simp only[PV.nZ,aJ,PV.lt,decide_eq_true_eq] at hv hl⊢;rw[← (h k hl hv.1).1];exact⟨(h k hl hv.1).2,hv.2⟩
 | .ib xs i off,v,_,hv=>by simpa[PV.nZ,aJ] using hv
 | .fn f cap,v,hl,hv=>by simp only[PV.nZ,aJ,PV.lt] at hv hl⊢;obtain⟨vs,e,hv⟩:=hv;exact⟨vs,e,aH.nD h cap vs hl hv⟩
theorem aH.nD{n:Nat}(h:∀i,i<n→(st (look m i)).isSome=true→ν (look m i)=ν' i∧(st' i).isSome=true):∀(ps:List PV)(vs:List Value),wj n ps=true→aH w ok ν st (tu m ps) vs→aH w ok ν' st' ps vs
 | [],[],_,_=>by simp[aH]
 | [],_::_,_,hv=>by simp[tu,aH] at hv
 | _::_,[],_,hv=>by simp[tu,aH] at hv
 | p::ps,v::vs,hl,hv=>by simp only[tu,aH,wj,ah] at hv hl⊢;exact⟨aJ.nD h p v hl.1 hv.1,aH.nD h ps vs hl.2 hv.2⟩
end
theorem Av(m:List Nat):∀(xs:List (List T)),(mO m xs).length=xs.length
 | []=>rfl
 | x::xs=>by simp only[mO,aY,Av m xs]
variable{P:Program}
mutual
theorem mD.lh(h:∀i,(st' i).isSome=true→ν (look m i)=ν' i∧(st (look m i)).isSome=true):∀(t:T)(v:Value)(F:List Nat),mD P w ok ν' st' t v F→mD P w ok ν st (t.nZ m) v F
 | .fM d,v,F,hv=>by simpa only[mD,T.nZ] using hv
 | .ref j,v,F,hv=>by simp only[mD,T.nZ] at hv⊢;rw[(h j hv.1).1];exact⟨(h j hv.1).2,hv.2⟩
 | .own e xs,v,F,hv=>by simp only[mD,T.nZ,Av] at hv⊢;obtain⟨us,F1,h1,h2,h3,h4⟩:=hv;exact⟨us,F1,h1,h2,bP.lh h xs us F1 h3,h4⟩
theorem bq.lh(h:∀i,(st' i).isSome=true→ν (look m i)=ν' i∧(st (look m i)).isSome=true):∀(ts:List T)(vs:List Value)(F:List Nat),bq P w ok ν' st' ts vs F→bq P w ok ν st (nV m ts) vs F
 | [],[],F,hv=>by simpa only[bq,nV] using hv
 | [],_::_,F,hv=>by simp[bq] at hv
 | _::_,[],F,hv=>by simp[bq] at hv
 | t::ts,v::vs,F,hv=>by simp only[bq,nV] at hv⊢;obtain⟨F1,F2,h1,h2,h3⟩:=hv;exact⟨F1,F2,mD.lh h t v F1 h1,bq.lh h ts vs F2 h2,h3⟩
theorem bP.lh(h:∀i,(st' i).isSome=true→ν (look m i)=ν' i∧(st (look m i)).isSome=true):∀(xs:List (List T))(us:List (List Value))(F:List Nat),bP P w ok ν' st' xs us F→bP P w ok ν st (mO m xs) us F
 | [],[],F,hv=>by simpa only[bP,mO] using hv
 | [],_::_,F,hv=>by simp[bP] at hv
 | _::_,[],F,hv=>by simp[bP] at hv
 | x::xs,u::us,F,hv=>by simp only[bP,mO] at hv⊢;obtain⟨F1,F2,h1,h2,h3⟩:=hv;exact⟨F1,F2,bq.lh h x u F1 h1,bP.lh h xs us F2 h2,h3⟩
end
mutual
theorem mD.nD{n:Nat}(h:∀i,i<n→(st (look m i)).isSome=true→ν (look m i)=ν' i∧(st' i).isSome=true):∀(t:T)(v:Value)(F:List Nat),t.lt n=true→mD P w ok ν st (t.nZ m) v F→mD P w ok ν' st' t v F
 | .fM d,v,F,_,hv=>by simpa only[mD,T.nZ] using hv
 | .ref j,v,F,hl,hv=>by simp only[mD,T.nZ,T.lt] at hl hv⊢;have:=h j (of_decide_eq_true hl) hv.1;rw[←this.1];exact⟨this.2,hv.2⟩
 | .own e xs,v,F,hl,hv=>by simp only[mD,T.nZ,T.lt,Av] at hl hv⊢;obtain⟨us,F1,h1,h2,h3,h4⟩:=hv;exact⟨us,F1,h1,h2,bP.nD h xs us F1 hl h3,h4⟩
theorem bq.nD{n:Nat}(h:∀i,i<n→(st (look m i)).isSome=true→ν (look m i)=ν' i∧(st' i).isSome=true):∀(ts:List T)(vs:List Value)(F:List Nat),Jo n ts=true→bq P w ok ν st (nV m ts) vs F→bq P w ok ν' st' ts vs F
 | [],[],F,_,hv=>by simpa only[bq,nV] using hv
 | [],_::_,F,_,hv=>by simp[bq,nV] at hv
 | _::_,[],F,_,hv=>by simp[bq,nV] at hv
 | t::ts,v::vs,F,hl,hv=>by simp only[bq,nV,Jo,ah] at hl hv⊢;obtain⟨F1,F2,h1,h2,h3⟩:=hv;exact⟨F1,F2,mD.nD h t v F1 hl.1 h1,bq.nD h ts vs F2 hl.2 h2,h3⟩
theorem bP.nD{n:Nat}(h:∀i,i<n→(st (look m i)).isSome=true→ν (look m i)=ν' i∧(st' i).isSome=true):∀(xs:List (List T))(us:List (List Value))(F:List Nat),KA n xs=true→bP P w ok ν st (mO m xs) us F→bP P w ok ν' st' xs us F
 | [],[],F,_,hv=>by simpa only[bP,mO] using hv
 | [],_::_,F,_,hv=>by simp[bP,mO] at hv
 | _::_,[],F,_,hv=>by simp[bP,mO] at hv
 | x::xs,u::us,F,hl,hv=>by simp only[bP,mO,KA,ah] at hl hv⊢;obtain⟨F1,F2,h1,h2,h3⟩:=hv;exact⟨F1,F2,bq.nD h x u F1 hl.1 h1,bP.nD h xs us F2 hl.2 h2,h3⟩
end
theorem mS.lh(h:∀i,(st' i).isSome=true→ν (look m i)=ν' i∧(st (look m i)).isSome=true){i:Nat}(hi:(st' i).isSome=true){e:En}(he:mS P w ok ν' st' i e):mS P w ok ν st (look m i) (e.nZ m):=by
 have hn:=(h i hi).1;cases e with
 | dead=>trivial
 | box cs=>obtain⟨b,vs,T,h1,h2,h3,h4⟩:=he;simp only[mS,En.nZ,hn];exact⟨b,vs,T,h1,h2,aH.lh h cs vs h3,h4⟩
 | aX t xs=>simp only[mS,En.nZ,hn] at he⊢;exact he
 | gD t xs=>simp only[mS,En.nZ,hn] at he⊢;exact⟨mD.lh h _ _ _ he.1,he.2⟩
 | map wu=>simp only[mS,En.nZ,hn] at he⊢;exact he
theorem mS.nD{n:Nat}(h:∀i,i<n→(st (look m i)).isSome=true→ν (look m i)=ν' i∧(st' i).isSome=true){i:Nat}(hi:i<n){e:En}(hs:(st (look m i)).isSome=true)(hl:e.lt n=true)(he:mS P w ok ν st (look m i) (e.nZ m)):mS P w ok ν' st' i e:=by
 have hn:=(h i hi hs).1;cases e with
 | dead=>trivial
 | box cs=>obtain⟨b,vs,T,h1,h2,h3,h4⟩:=he;rw[hn] at h1 h4;exact⟨b,vs,T,h1,h2,aH.nD h cs vs hl h3,h4⟩
 | aX t xs=>simp only[mS,En.nZ,hn] at he⊢;exact he
 | gD t xs=>simp only[mS,En.nZ,hn] at he⊢;exact⟨mD.nD h (.own t xs) _ _ hl he.1,he.2⟩
 | map wu=>simp only[mS,En.nZ,hn] at he⊢;exact he
end
def Fits(g:G)(m:List Nat)(fG:List (Option En)):Prop:=∀i,i<fG.length→∃e,dV fG i=some e∧g.at (look m i)=some (e.nZ m)∧e.lt fG.length=true
def UZ(P:Program)(X:Cx)(ν:Nat→Nm)(res:PV)(st:List (Option En))(v:Value)(w:World):Prop:=Sat P X ν ⟨[res],st⟩ ⟨#[v],[]⟩ w
def ab4 (P : Program) (f : FuncId) : Prop := ∃ fn, P.funcs[f]? = some fn ∧ fn.body.isNone = false ∧ (fn.name == "runtime.NumGoroutine") = false
def C(P:Program)(f:FuncId)(args:List PV)(fG:List (Option En))(R:PV→List (Option En)→Prop):Prop:=
 ab4 P f∧∀(X:Cx)(vs:List Value),X.st0=dV fG→X.O0=Own X.ν0 X.st0→Sat P X X.ν0 ⟨args,fG⟩ ⟨⟨vs⟩,[]⟩ X.w0 →
  Calls P f ⟨vs⟩ X.w0 (fun e w'=>∃v res st' ν',e= .returned v∧R res st'∧UZ P X ν' res st' v w')
theorem C.mono{P:Program}{f:FuncId}{args:List PV}{fG:List (Option En)}{R R':PV→List (Option En)→Prop}(h:C P f args fG R)(hr:∀r s,R r s→R' r s):C P f args fG R':=
 ⟨h.1,fun X vs h1 h2 h3=>(h.2 X vs h1 h2 h3).mono fun _ _ ⟨v,res,st',ν',k1,k2,k3⟩=>⟨v,res,st',ν',k1,hr _ _ k2,k3⟩⟩
def jF(res:PV)(st:List (Option En)):PV→List (Option En)→Prop:=fun r s=>r=res∧s=st
theorem Jv:∀{m:List Nat}{i:Nat},i<m.length→look m i∈m
 | [],_,h=>by simp at h
 | a::as,0,_=>by simp[look]
 | a::as,n+1,h=>by simp only[look];exact List.mem_cons_of_mem _ (Jv (by simpa using h))
theorem KX:∀{m:List Nat},m.Nodup→∀{i j:Nat},i<m.length→j<m.length→look m i=look m j→i=j
 | [],_,_,_,h,_,_=>by simp at h
 | a::as,hn,0,0,_,_,_=>rfl
 | a::as,hn,0,j+1,_,hj,h=>by simp only[look] at h;have:=Jv (m:=as) (i:=j) (by simpa using hj);rw[←h] at this;exact((da.1 hn).1 this).elim
 | a::as,hn,i+1,0,hi,_,h=>by simp only[look] at h;have:=Jv (m:=as) (i:=i) (by simpa using hi);rw[h] at this;exact((da.1 hn).1 this).elim
 | a::as,hn,i+1,j+1,hi,hj,h=>by simp only[look] at h;rw[KX (da.1 hn).2 (by simpa using hi) (by simpa using hj) h]
theorem Ll:∀{l:List (Option En)}{i:Nat},l.length≤i→dV l i=none
 | [],i,_=>by cases i<;>rfl
 | _::_,0,h=>by simp at h
 | _::as,n+1,h=>by simp only[dV];exact Ll (by simpa using h)
theorem qn{l:List (Option En)}{i:Nat}(h:(dV l i).isSome=true):i<l.length:=by rcases cz i l.length with h' | h';exact h';rw[Ll h'] at h;cases h
theorem Sat.enter{P:Program}{X:Cx}{ν:Nat→Nm}{g:G}{a:Act}{w:World}(h:Sat P X ν g a w)(m:List Nat)(dh:List PV)(fG:List (Option En))(vs:List Value)(hm:m.Nodup)(hml:fG.length≤m.length)
 (hf:Fits g m fG) (ru:aH w (dk X ν g.at) ν g.at (tu m dh) vs) (nS:wj fG.length dh=true) (Xc:Cx) (h0:Xc.w0=w) (hν:∀i,i<fG.length→Xc.ν0 i=ν (look m i)) (ld:Xc.st0=dV fG) (hO:Xc.O0=Own Xc.ν0 Xc.st0)
 (hZ:Xc.Z=fun b=>X.Z b∨(Own ν g.at b∧¬Own Xc.ν0 (dV fG) b)) :
 Sat P Xc Xc.ν0 ⟨dh,fG⟩ ⟨⟨vs⟩,[]⟩ w:=by
 have np:∀i,(⟨dh,fG⟩:G).at i=dV fG i:=fun _=>rfl
 have kI:∀i,i<fG.length→(g.at (look m i)).isSome=true→ν (look m i)=Xc.ν0 i∧(dV fG i).isSome=true:=by intro i hi _;obtain⟨e,h1,_⟩:=hf i hi;exact⟨(hν i hi).symm,by rw[h1];rfl⟩
 have hownsub:∀b,Own Xc.ν0 (dV fG) b→Own ν g.at b:=by rintro b ⟨i,e,h1,h2,h3⟩;have hi:=qn (by rw[h1];rfl);obtain⟨e',k1,k2,_⟩:=hf i hi;rw[h1] at k1;obtain rfl:=Option.some.inj k1;exact⟨look m i,_,k2,by rw[En.tf];exact h2,by rw[←hν i hi];exact h3⟩
 have hfree:∀b,dk X ν g.at b→b<w.heap.size→dk Xc Xc.ν0 (dV fG) b∧w.heap[b]?=w.heap[b]?:=by rintro b ⟨h1,h2⟩ _;refine⟨⟨fun ho=>h1 (hownsub b ho),?_⟩,rfl⟩;rw[hZ];rintro(h3|h3);exact h2 h3;exact h1 h3.1
 have hargs':aH w (dk Xc Xc.ν0 (dV fG)) Xc.ν0 (dV fG) dh vs:=
  aH.frame hfree (aK _) (nH.refl _ _) _ _ (aH.nD (n:=fG.length) kI dh vs nS ru)
 refine⟨by simp[hargs'.length],fun t=>?_,fun i e he=>?_,fun i j e e' b h1 h2 h3 h4 h5 h6=>?_,fun b hb=>?_,fun i hi=>?_,fun i hi=>?_,⟨fun b hb=>?_,h.kt h0 fun b hb=>hownsub b (by rw[hO,ld] at hb;exact hb)⟩,?_,rfl⟩
 ·have key:∀(ps:List PV)(us:List Value)(t:Nat),aH w (dk Xc Xc.ν0 (dV fG)) Xc.ν0 (dV fG) ps us→aJ w (dk Xc Xc.ν0 (dV fG)) Xc.ν0 (dV fG) (nth ps t) (us.getD t Go.undef):=by
   intro ps
   induction ps with
   | nil=>intro us t _;cases t<;>simp[nth,aJ]
   | cons p ps ih=>
    intro us t hr;cases us with
    | nil=>simp[aH] at hr
    | cons u us=>
     simp only[aH] at hr;cases t with
     | zero=>simpa[nth] using hr.1
     | succ t=>simpa[nth] using ih us t hr.2
  have:=key dh vs t hargs'
  show aJ w (dk Xc Xc.ν0 (dV fG)) Xc.ν0 (dV fG) (nth dh t) ((⟨vs⟩:Array Value).getD t Go.undef)
  simpa[dp] using this
 ·rw[np] at he
  have hi:=qn (l:=fG) (i:=i) (by rw[he];rfl)
  obtain⟨e',k1,k2,k3⟩:=hf i hi
  rw[he] at k1
  obtain rfl:=Option.some.inj k1
  have h1:=h.en _ _ k2
  have h2:=mS.nD (n:=fG.length) kI hi (by rw[k2];rfl) k3 h1
  exact h2.frame hfree (aK _) (nH.refl _ _) rfl (fun _ _ _=>rfl)
 ·rw[np] at h1 h2
  have hi:=qn (l:=fG) (i:=i) (by rw[h1];rfl)
  have hj:=qn (l:=fG) (i:=j) (by rw[h2];rfl)
  obtain⟨e1,k1,k2,_⟩:=hf i hi
  obtain⟨e2,m1,m2,_⟩:=hf j hj
  rw[h1] at k1
  rw[h2] at m1
  obtain rfl:=Option.some.inj k1
  obtain rfl:=Option.some.inj m1
  exact KX hm oM oM (h.inj _ _ _ _ b k2 m2 (by rw[En.tf];exact h3) (by rw[En.tf];exact h4) (by rw[←hν i hi];exact h5) (by rw[←hν j hj];exact h6))
 ·left
  rw[hO,ld]
  exact hb
 ·rw[np] at hi
  have hi':=qn hi
  obtain⟨e1,k1,k2,_⟩:=hf i hi'
  rw[hν i hi']
  exact h.nu _ (by rw[k2];rfl)
 ·rw[ld] at hi
  exact⟨rfl,hi⟩
 ·rw[h0,hO,ld]
  rw[hZ] at hb
  rcases hb with h1|h1
  ·refine⟨jV (h.Jy b h1).1 h.Da.size,fun ho=>h.PG (hownsub b ho) h1⟩
  ·exact⟨h.lt h1.1,h1.2⟩
 ·rw[h0]
  exact vg.refl _ w
def mF(M:List Nat):List Nat→List (Option En)→List (Nat×En)
 | k::ks,some e::es=>(k,e.nZ M)::mF M ks es
 | _::ks,none::es=>mF M ks es
 | _,_=>[]
theorem BM(M:List Nat):∀(m:List Nat)(st':List (Option En))(st:List (Option En))(k:Nat),(∀i,i<st'.length→look m i=k→i<m.length→dV st' i=none)→dV (B4 st (mF M m st')) k=dV st k
 | [],_,st,k,_=>by simp[mF,B4]
 | _::_,[],st,k,_=>by simp[mF,B4]
 | j::ks,none::es,st,k,h=>by simp only[mF];exact BM M ks es st k fun i hi hl hm=>h (i+1) (by simpa using hi) hl (by simpa using hm)
 | j::ks,some e::es,st,k,h=>by
  simp only[mF,B4];rw[BM M ks es _ k fun i hi hl hm=>h (i+1) (by simpa using hi) hl (by simpa using hm),iT];have:k≠j:=fun hk=>by have:=h 0 (by simp) hk.symm (by simp);simp[dV] at this
  rw[if_neg this]
theorem aaY(M:List Nat):∀(m:List Nat)(st':List (Option En))(st:List (Option En))(i:Nat)(e:En),m.Nodup→st'.length≤m.length→dV st' i=some e→dV (B4 st (mF M m st')) (look m i)=some (e.nZ M)
 | _,[],st,i,e,_,_,he=>by cases i<;>simp[dV] at he
 | [],_::_,st,i,e,_,hl,_=>by simp at hl
 | j::ks,x::es,st,0,e,hn,hl,he=>by simp only[dV] at he;subst he;simp only[mF,B4,look];rw[BM M ks es _ j,iT,if_pos rfl];intro i hi hli him;have:=Jv him;rw[hli] at this;exact((da.1 hn).1 this).elim
 | j::ks,x::es,st,i+1,e,hn,hl,he=>by
  simp only[dV] at he;have ih:=fun st=>aaY M ks es st i e (da.1 hn).2 (by simpa using hl) he;cases x with
  | none=>simp only[mF,look];exact ih st
  | some x=>simp only[mF,B4,look];exact ih _
open Classical in
theorem Sat.leave{P:Program}{X:Cx}{ν:Nat→Nm}{g:G}{a:Act}{w:World}(h:Sat P X ν g a w)(m:List Nat)(fG st':List (Option En))(hm:m.Nodup)(hml:st'.length≤m.length)(hcs:fG.length≤st'.length)
 (hf:Fits g m fG) (hnew:∀i,fG.length≤i→i<st'.length→g.at (look m i)=none) (Xc:Cx) (h0:Xc.w0=w) (hν:∀i,i<fG.length→Xc.ν0 i=ν (look m i)) (ld:Xc.st0=dV fG) (hO:Xc.O0=Own Xc.ν0 Xc.st0)
 (hZ:Xc.Z=fun b=>X.Z b∨(Own ν g.at b∧¬Own Xc.ν0 (dV fG) b)) {ν':Nat→Nm} {res:PV} {v:Value} {w':World} (hc:UZ P Xc ν' res st' v w') (d:Nat) :
 ∃ν'',Sat P X ν'' ⟨n8 g.sl d (res.nZ m),B4 g.st (mF m m st')⟩ (a.put (some d) v) w':=by
 let ν'':Nat→Nm:=fun k=>if hx:∃i,look m i=k∧(dV st' i).isSome=true then ν' (Classical.choose hx) else ν k
 have hatc:∀i,(⟨[res],st'⟩:G).at i=dV st' i:=fun _=>rfl
 have eO:∀i,(dV st' i).isSome=true→i<m.length:=fun i hi=>jV (qn hi) hml
 have hν1:∀i,(dV st' i).isSome=true→ν'' (look m i)=ν' i:=by intro i hi;have hx:∃j,look m j=look m i∧(dV st' j).isSome=true:=⟨i,rfl,hi⟩;have e:ν'' (look m i)=ν' (Classical.choose hx):=dif_pos hx;have h1:=Classical.choose_spec hx;rw[e,KX hm (eO _ h1.2) (eO i hi) h1.1]
 have hν2:∀k,(¬ ∃i,look m i=k∧(dV st' i).isSome=true)→ν'' k=ν k:=fun k hk=>dif_neg hk
 have hat1:∀i e,dV st' i=some e→dV (B4 g.st (mF m m st')) (look m i)=some (e.nZ m):=fun i e he=>aaY m m st' g.st i e hm hml he
 have hat2:∀k,(¬ ∃i,look m i=k∧(dV st' i).isSome=true)→dV (B4 g.st (mF m m st')) k=g.at k:=by
  intro k hk;refine BM m m st' g.st k fun i hi hl _=>?_;cases hq:dV st' i with
  | none=>rfl
  | some e=>exact(hk ⟨i,hl,by rw[hq];rfl⟩).elim
 have hpar:∀i,i<fG.length→(ν' i).v=(ν (look m i)).v∧(dV st' i).isSome=true:=by intro i hi;obtain⟨e,h1,_⟩:=hf i hi;obtain⟨k1,k2⟩:=hc.par i (by rw[ld,h1];rfl);exact⟨by rw[k1,hν i hi],k2⟩
 have hownc:∀b,Own Xc.ν0 (dV fG) b→Own ν g.at b:=by rintro b ⟨i,e,h1,h2,h3⟩;have hi:=qn (by rw[h1];rfl);obtain⟨e',k1,k2,_⟩:=hf i hi;rw[h1] at k1;obtain rfl:=Option.some.inj k1;exact⟨look m i,_,k2,by rw[En.tf];exact h2,by rw[←hν i hi];exact h3⟩
 have uX:vg (Own Xc.ν0 (dV fG)) w w':=by have:=hc.Da;rw[hO,ld,h0] at this;exact this
 have hm':nH g.at (fun k=>dV (B4 g.st (mF m m st')) k) ν ν'':=by
  intro k hk;by_cases hx:∃i,look m i=k∧(dV st' i).isSome=true;obtain⟨i,hi,hs⟩:=hx;have hic:i<fG.length:=by rcases cz i fG.length with h1|h1;exact h1;have:=hnew i h1 (qn hs);rw[hi] at this;rw[this] at hk;cases hk
  refine⟨?_,?_⟩;rw[←hi,hν1 i hs];exact(hpar i hic).1;obtain⟨e,he⟩:=dA.1 hs;rw[←hi];show(dV (B4 g.st (mF m m st')) (look m i)).isSome=true;rw[hat1 i e he];rfl;refine⟨by rw[hν2 k hx],?_⟩;show(dV (B4 g.st (mF m m st')) k).isSome=true;rw[hat2 k hx];exact hk
 have hother:∀k e b,(¬ ∃i,look m i=k∧(dV st' i).isSome=true)→g.at k=some e→e.live=true→(ν k).has b→¬Own Xc.ν0 (dV fG) b:=by rintro k e b hk h1 h2 h3 ⟨i,e',k1,k2,k3⟩;have hi:=qn (l:=fG) (i:=i) (by rw[k1];rfl);obtain⟨e'',m1,m2,_⟩:=hf i hi;rw[k1] at m1;obtain rfl:=Option.some.inj m1;have:=h.inj k (look m i) e _ b h1 m2 h2 (by rw[En.tf];exact k2) h3 (by rw[←hν i hi];exact k3);exact hk ⟨i,this.symm,(hpar i hi).2⟩
 have hown2:∀b,Own ν'' (fun k=>dV (B4 g.st (mF m m st')) k) b→Own ν' (dV st') b∨(Own ν g.at b∧¬Own Xc.ν0 (dV fG) b):=by rintro b ⟨k,e,h1,h2,h3⟩;have h1:dV (B4 g.st (mF m m st')) k=some e:=h1;by_cases hx:∃i,look m i=k∧(dV st' i).isSome=true;obtain⟨i,hi,hs⟩:=hx;obtain⟨e',he'⟩:=dA.1 hs;left;have:=hat1 i e' he';rw[hi] at this;rw[this] at h1;obtain rfl:=Option.some.inj h1;exact⟨i,e',he',by rw[←En.tf m];exact h2,by rw[←hν1 i hs,hi];exact h3⟩;rw[hat2 k hx] at h1;rw[hν2 k hx] at h3;exact .inr ⟨⟨k,e,h1,h2,h3⟩,hother k e b hx h1 h2 h3⟩
 have hfree2:∀b,dk Xc ν' (dV st') b→dk X ν'' (fun k=>dV (B4 g.st (mF m m st')) k) b:=by rintro b ⟨h1,h2⟩;rw[hZ] at h2;refine⟨fun ho=>?_,fun hz=>h2 (.inl hz)⟩;rcases hown2 b ho with h3|h3;exact h1 h3;exact h2 (.inr h3)
 have hrenout:∀i,(dV st' i).isSome=true→ν'' (look m i)=ν' i∧((fun k=>dV (B4 g.st (mF m m st')) k) (look m i)).isSome=true:=by intro i hi;obtain⟨e,he⟩:=dA.1 hi;exact⟨hν1 i hi,by show(dV _ _).isSome=true;rw[hat1 i e he];rfl⟩
 have hres:aJ w' (dk X ν'' (fun k=>dV (B4 g.st (mF m m st')) k)) ν'' (fun k=>dV (B4 g.st (mF m m st')) k) (res.nZ m) v:=by have h1:aJ w' (dk Xc ν' (dV st')) ν' (dV st') res v:=(by exact hc.sl 0);exact aJ.lh hrenout _ _ (aJ.frame (fun b hb _=>⟨hfree2 b hb,rfl⟩) (aK _) (nH.refl _ _) _ _ h1)
 refine⟨ν'',h.upd (g':=⟨n8 g.sl d (res.nZ m),B4 g.st (mF m m st')⟩) (Own Xc.ν0 (dV fG)) uX hownc hm' ?_ ?_ ?_ ?_ ?_ ?_ rfl⟩
 ·intro k e he
  by_cases hx:∃i,look m i=k∧(dV st' i).isSome=true
  ·obtain⟨i,hi,hs⟩:=hx
   obtain⟨e',he'⟩:=dA.1 hs
   right
   have h1:=hat1 i e' he'
   rw[hi] at h1
   have h2:dV (B4 g.st (mF m m st')) k=some e:=he
   rw[h2] at h1
   obtain rfl:=Option.some.inj h1
   rw[←hi]
   exact mS.lh hrenout hs ((hc.en i e' he').frame (fun b hb _=>⟨hfree2 b hb,rfl⟩) (aK _) (nH.refl _ _) rfl (fun _ _ _=>rfl))
  ·left
   have h2:dV (B4 g.st (mF m m st')) k=some e:=he
   rw[hat2 k hx] at h2
   exact⟨h2,hν2 k hx,fun b hl hb=>hother k e b hx h2 hl hb⟩
 ·intro k e b he hl hb
  rcases hown2 b ⟨k,e,he,hl,hb⟩ with h1|h1
  ·rcases hc.base b h1 with h2|h2
   ·left
    rw[hO,ld] at h2
    exact hownc b h2
   ·rw[h0] at h2
    exact .inr h2
  ·exact .inl h1.1
 ·intro k k' e e' b h1 h2 h3 h4 h5 h6
  have cls:∀(k:Nat)(e:En),dV (B4 g.st (mF m m st')) k=some e→e.live=true→(ν'' k).has b →
   (∃i e',look m i=k∧dV st' i=some e'∧e'.live=true∧(ν' i).has b)∨((¬ ∃i,look m i=k∧(dV st' i).isSome=true)∧g.at k=some e∧(ν k).has b):=by
   intro k e h1 h3 h5
   by_cases hx:∃i,look m i=k∧(dV st' i).isSome=true
   ·obtain⟨i,hi,hs⟩:=hx
    obtain⟨e',he'⟩:=dA.1 hs
    left
    have:=hat1 i e' he'
    rw[hi,h1] at this
    obtain rfl:=Option.some.inj this
    exact⟨i,e',hi,he',by rw[←En.tf m];exact h3,by rw[←hν1 i hs,hi];exact h5⟩
   ·rw[hat2 k hx] at h1
    rw[hν2 k hx] at h5
    exact .inr ⟨hx,h1,h5⟩
  have mix:∀(i:Nat)(ei:En)(k:Nat)(e:En),dV st' i=some ei→ei.live=true→(ν' i).has b→(¬ ∃i,look m i=k∧(dV st' i).isSome=true)→g.at k=some e→e.live=true→(ν k).has b→False:=by intro i ei k e k1 k2 k3 k4 k5 k6 k7;have hno:=hother k e b k4 k5 k6 k7;rcases hc.base b ⟨i,ei,k1,k2,k3⟩ with h2|h2;rw[hO,ld] at h2;exact hno h2;rw[h0] at h2;have:=h.lt ⟨k,e,k5,k6,k7⟩;omega
  rcases cls k e h1 h3 h5 with⟨i,e1,i1,i2,i3,i4⟩|⟨i1,i2,i3⟩
  ·rcases cls k' e' h2 h4 h6 with⟨j,e2,j1,j2,j3,j4⟩|⟨j1,j2,j3⟩
   ·rw[←i1,←j1,hc.inj i j e1 e2 b i2 j2 i3 j3 i4 j4]
   ·exact(mix i e1 k' e' i2 i3 i4 j1 j2 h4 j3).elim
  ·rcases cls k' e' h2 h4 h6 with⟨j,e2,j1,j2,j3,j4⟩|⟨j1,j2,j3⟩
   ·exact(mix j e2 k e j2 j3 j4 i1 i2 h3 i3).elim
   ·exact h.inj k k' e e' b i2 j2 h3 h4 i3 j3
 ·intro k hk
  by_cases hx:∃i,look m i=k∧(dV st' i).isSome=true
  ·obtain⟨i,hi,hs⟩:=hx
   right
   rw[←hi,hν1 i hs]
   exact hc.nu i hs
  ·left
   have h2:(dV (B4 g.st (mF m m st')) k).isSome=true:=hk
   rw[hat2 k hx] at h2
   exact h2
 ·simp[size_put,lq,h.size]
 ·intro t
  simp only[v7,pM,h.size]
  by_cases hcc:t=d∧d<g.sl.length
  ·simp only[hcc,and_self,if_true]
   exact .inr hres
  ·simp only[hcc,if_false]
   exact .inl ⟨trivial,trivial⟩
def pP(g:G)(M:List Nat)(n:Nat):List Nat→List (Option En)→Prop
 | _,[]=>True
 | k::ks,some e::es=>g.at k=some (e.nZ M)∧e.lt n=true∧pP g M n ks es
 | _,_=>False
theorem pP.at{g:G}{M:List Nat}{n:Nat}:∀{m:List Nat}{fG:List (Option En)},pP g M n m fG→∀i,i<fG.length→∃e,dV fG i=some e∧g.at (look m i)=some (e.nZ M)∧e.lt n=true
 | _,[],_,i,h=>by simp at h
 | [],_::_,h,_,_=>by simp[pP] at h
 | _::_,none::_,h,_,_=>by simp[pP] at h
 | k::ks,some e::es,h,0,_=>by simp only[pP] at h;exact⟨e,rfl,h.1,h.2.1⟩
 | k::ks,some e::es,h,i+1,hi=>by simp only[pP] at h;simp only[dV,look];exact pP.at h.2.2 i (by simpa using hi)
def jP(g:G):Nat→List Nat→Prop
 | _,[]=>True
 | 0,k::ks=>g.at k=none∧jP g 0 ks
 | n+1,_::ks=>jP g n ks
theorem jP.at{g:G}:∀{n:Nat}{m:List Nat},jP g n m→∀i,n≤i→i<m.length→g.at (look m i)=none
 | _,[],_,i,_,h=>by simp at h
 | 0,k::ks,h,0,_,_=>by simp only[jP] at h;exact h.1
 | 0,k::ks,h,i+1,_,hi=>by simp only[jP] at h;simp only[look];exact jP.at h.2 i (bo _) (by simpa using hi)
 | n+1,_::ks,h,0,hn,_=>by omega
 | n+1,_::ks,h,i+1,hn,hi=>by simp only[jP] at h;simp only[look];exact jP.at h i oM (by simpa using hi)
theorem aH.app:∀{w:World}{ok:Nat→Prop}{ν:Nat→Nm}{st:Nat→Option En}{ps qs:List PV}{us vs:List Value},aH w ok ν st ps us→aH w ok ν st qs vs→aH w ok ν st (ps++qs) (us++vs):=
 fun h h'=>aH.append h h'
mutual
def cv:PV→PV→Prop
 | .bW,.d y=>y= .eC []
 | .agg cs,.agg ds=>Io cs ds
 | p,q=>p=q
def Io:List PV→List PV→Prop
 | [],[]=>True
 | p::ps,q::qs=>cv p q∧Io ps qs
 | _,_=>False
end
theorem adh:Io [] []:=by simp[Io]
theorem ach{p q:PV}{ps qs:List PV}(h:cv p q)(h':Io ps qs):Io (p::ps) (q::qs):=by simp only[Io];exact⟨h,h'⟩
mutual
theorem af9:∀(p:PV),cv p p
 | .agg cs=>by simp only[cv];exact Qz cs
 | .any=>by simp[cv]
 | .undef=>by simp[cv]
 | .bW=>by simp[cv]
 | .d x=>by simp[cv]
 | .iZ cs=>by simp[cv]
 | .bA k off=>by simp[cv]
 | .aX k=>by simp[cv]
 | .jg k i off sz=>by simp[cv]
 | .ib xs i off=>by simp[cv]
 | .fn f cap=>by simp[cv]
theorem Qz:∀(ps:List PV),Io ps ps
 | []=>adh
 | p::ps=>ach (af9 p) (Qz ps)
end
section
variable{w:World}{ok:Nat→Prop}{ν:Nat→Nm}{st:Nat→Option En}
mutual
theorem aJ.cv:∀(p q:PV)(v:Value),cv p q→aJ w ok ν st p v→aJ w ok ν st q v
 | .bW,q,v,h,hv=>by
  cases q<;>simp only[Eng.cv] at h<;>first
   | (subst h;simp only[aJ] at hv⊢;rw[hv];exact .nil)
   | exact hv
   | (cases h;done)
 | .agg cs,q,v,h,hv=>by
  cases q with
  | agg ds=>simp only[Eng.cv] at h;simp only[aJ] at hv⊢;obtain⟨vs,e,hv⟩:=hv;exact⟨vs,e,aH.cv cs ds vs h hv⟩
  | any=>simp only[aJ]
  | undef=>simp only[Eng.cv] at h;cases h
  | bW=>simp only[Eng.cv] at h;cases h
  | d x=>simp only[Eng.cv] at h;cases h
  | iZ cs=>simp only[Eng.cv] at h;cases h
  | bA k off=>simp only[Eng.cv] at h;cases h
  | aX k=>simp only[Eng.cv] at h;cases h
  | jg k i off sz=>simp only[Eng.cv] at h;cases h
  | ib xs i off=>simp only[Eng.cv] at h;cases h
  | fn f cap=>simp only[Eng.cv] at h;cases h
 | .any,q,v,h,hv=>by simp only[Eng.cv] at h;rw[←h];exact hv
 | .undef,q,v,h,hv=>by simp only[Eng.cv] at h;rw[←h];exact hv
 | .d x,q,v,h,hv=>by simp only[Eng.cv] at h;rw[←h];exact hv
 | .iZ cs,q,v,h,hv=>by simp only[Eng.cv] at h;rw[←h];exact hv
 | .bA k off,q,v,h,hv=>by simp only[Eng.cv] at h;rw[←h];exact hv
 | .aX k,q,v,h,hv=>by simp only[Eng.cv] at h;rw[←h];exact hv
 | .jg k i off sz,q,v,h,hv=>by simp only[Eng.cv] at h;rw[←h];exact hv
 | .ib xs i off,q,v,h,hv=>by simp only[Eng.cv] at h;rw[←h];exact hv
 | .fn f cap,q,v,h,hv=>by simp only[Eng.cv] at h;rw[←h];exact hv
theorem aH.cv:∀(ps qs:List PV)(vs:List Value),Io ps qs→aH w ok ν st ps vs→aH w ok ν st qs vs
 | [],[],vs,_,hv=>hv
 | p::ps,q::qs,[],_,hv=>by simp[aH] at hv
 | p::ps,q::qs,v::vs,h,hv=>by simp only[Io] at h;simp only[aH] at hv⊢;exact⟨aJ.cv p q v h.1 hv.1,aH.cv ps qs vs h.2 hv.2⟩
 | [],_::_,_,h,_=>by simp[Io] at h
 | _::_,[],_,h,_=>by simp[Io] at h
end
end
theorem adi{P:Program}{o:Oper}{g:G}{oE:Operand}{xs:List Operand}{tys:Array TypeId}{d:Nat}(ho:o.op= .call ⟨.value oE,⟨xs⟩,tys⟩)(hd:o.dst=some d){f:FuncId}{cap:List PV}(hfn:g.ev oE= .fn f cap)
 (m:List Nat) (dh:List PV) (fG:List (Option En)) (R:PV→List (Option En)→Prop) (hC:C P f dh fG R) (ru:Io (xs.map g.ev++cap) (tu m dh)) (nS:wj fG.length dh=true) (hm:m.Nodup) (hml:fG.length≤m.length)
 (hf:pP g m fG.length m fG) (hnew:jP g fG.length m) (hR:∀r s,R r s→fG.length≤s.length∧s.length≤m.length)
 (X:Cx) (ν:Nat→Nm) (a:Act) (w:World) (next:Act→World→Prop) (Q:Exit→Act→World→Prop) (hs:Sat P X ν g a w)
 (hn:∀r s ν' a' w',R r s→Sat P X ν' ⟨n8 g.sl d (r.nZ m),B4 g.st (mF m m s)⟩ a' w'→next a' w'):o.wp P a w next Q:=by
 have hfv:=hs.ev oE
 rw[hfn] at hfv
 simp only[aJ] at hfv
 obtain⟨vcap,hfv,lF⟩:=hfv
 have hxs:=Fk hs xs
 have nq:aH w (dk X ν g.at) ν g.at (tu m dh) (xs.map a.eval++vcap):=aH.cv _ _ _ ru (hxs.app lF)
 obtain⟨⟨fn,hfn1,hfn2,hfn3⟩,hC⟩:=hC
 have hr:(execOp a.eval o).run P w= .ok (.enter f ⟨xs.map a.eval++vcap⟩) w:=by
  have n1 : ¬ fn.name = "runtime.NumGoroutine" := by simpa using hfn3
  have n2:¬fn.body=none:=fun e=>by rw[e] at hfn2;cases hfn2
  simp[execOp,ho,resolve,hfv,Deferred.ofValue,invoke,callFunc,program,hfn1,n1,n2,Sem.run]
 let Xc:Cx:=⟨w,Own (fun i=>ν (look m i)) (dV fG),fun i=>ν (look m i),dV fG,fun b=>X.Z b∨(Own ν g.at b∧¬Own (fun i=>ν (look m i)) (dV fG) b)⟩
 have hfits:Fits g m fG:=hf.at
 have hent:=hs.enter m dh fG (xs.map a.eval++vcap) hm hml hfits nq nS Xc rfl (fun _ _=>rfl) rfl rfl rfl
 unfold Oper.wp
 rw[hr,Oper.upon_enter]
 refine(hC Xc (xs.map a.eval++vcap) rfl rfl hent).mono ?_
 rintro e w' ⟨v,res,st',ν',rfl,hRr,je⟩
 obtain⟨h1,h2⟩:=hR res st' hRr
 obtain⟨ν'',hs'⟩:=hs.leave m fG st' hm h2 h1 hfits (fun i hi hi'=>hnew.at i hi oM) Xc rfl (fun _ _=>rfl) rfl rfl rfl je d
 show next (a.put o.dst v) w'
 rw[hd]
 exact hn res st' ν'' _ _ hRr hs'
section
variable{E:Env}{g:G}{d:Nat}{ty:TypeId}{pos:String}{fK:Array Edge}{gd:Option (Nat×Bool)}
theorem Xa(oE:Operand)(xs:List Operand)(tys:Array TypeId)(f:FuncId)(cap:List PV)(hfn:g.ev oE= .fn f cap)(m:List Nat)(dh:List PV)(fG st':List (Option En))(res:PV)(hC:C E.P f dh fG (jF res st'))
 (ru:Io (xs.map g.ev++cap) (tu m dh)) (nS:wj fG.length dh=true) (hm:m.Nodup) (hml:fG.length≤m.length) (hf:pP g m fG.length m fG) (hnew:jP g fG.length m) (h1:fG.length≤st'.length) (h2:st'.length≤m.length) :
 mM E.P ⟨some d,.call ⟨.value oE,⟨xs⟩,tys⟩,ty,pos,fK,gd⟩ g ⟨ez oE++xs.flatMap ez,m⟩ ⟨some (d,res.nZ m),mF m m st'⟩:=by
 intro g2 hg
 have e1:=hg.ev (x:=oE) (fun t h=>by simp[h])
 have e2:=x8 hg xs (fun t h=>by simp only[aO];exact .inr h)
 have np:∀k∈m,g2.at k=g.at k:=fun k hk=>hg.p k hk
 have hfl:∀(ks:List Nat)(es:List (Option En)),(∀k∈ks,k∈m)→pP g m fG.length ks es→pP g2 m fG.length ks es:=by
  intro ks;induction ks with
  | nil=>intro es _ h;cases es<;>first|trivial|(simp[pP] at h)
  | cons k ks ih=>
    intro es hk h
    match es,h with
    | [],_=>trivial
    | some e::es,h=>simp only[pP] at h⊢;exact⟨by rw[np k (hk k (by simp))];exact h.1,h.2.1,ih es (fun k h=>hk k (by simp[h])) h.2.2⟩
    | none::es,h=>simp[pP] at h
 have hfr:∀(ks:List Nat)(n:Nat),(∀k∈ks,k∈m)→jP g n ks→jP g2 n ks:=by
  intro ks;induction ks with
  | nil=>intro n _ _;cases n<;>trivial
  | cons k ks ih=>
   intro n hk h;cases n with
   | zero=>simp only[jP] at h⊢;exact⟨by rw[np k (hk k (by simp))];exact h.1,ih 0 (fun k h=>hk k (by simp[h])) h.2⟩
   | succ n=>simp only[jP] at h⊢;exact ih n (fun k h=>hk k (by simp[h])) h
 intro X ν a w next Q hs hn
 refine adi rfl rfl (by rw[e1,hfn]) m dh fG (jF res st') hC (by rw[e2];exact ru) nS hm hml (hfl m fG (fun _ h=>h) hf) (hfr m _ (fun _ h=>h) hnew) (fun r s h=>by rw[h.2];exact⟨h1,h2⟩) X ν a w next Q hs ?_
 rintro r s ν' a' w' ⟨rfl,rfl⟩ hs'
 exact hn ν' a' w' hs'
end
def Uj:List PV→Nat→Bool
 | [],0=>true
 | _::as,n+1=>Uj as n
 | _,_=>false
theorem Xb:∀{l:List PV}{n:Nat},Uj l n=true→l.length=n
 | [],0,_=>rfl
 | _::as,n+1,h=>by simp[Xb (l:=as) (n:=n) (by simpa[Uj] using h)]
 | [],_+1,h=>by simp[Uj] at h
 | _::_,0,h=>by simp[Uj] at h
def Zr(E:Env)(g:G):ResultVar→Option PV
 | .tmp t=>some (nth g.sl t)
 | .cell s t=>match nth g.sl s with
   | .bA k 0=>match g.at k,E.ti t with
     | some (.box cs),some ti=>match Uj cs ti.n with|true=>some (W5 ti.isAgg cs)|false=>none
     | _,_=>none
   | _=>none
def yv(E:Env)(g:G):List ResultVar→Option (List PV)
 | []=>some []
 | r::rs=>match Zr E g r,yv E g rs with
   | some p,some ps=>some (p::ps)
   | _,_=>none
def jd:List PV→PV
 | [p]=>p
 | ps=>.iZ ps
def Rc(tmps:Array Value)(r:ResultVar):Sem Value:=
 match r with
 | .tmp t=>pure (tmps.getD t Go.undef)
 | .cell a t=>do loadVar t (←asAddr (tmps.getD a Go.undef))
theorem acg{E:Env}{X:Cx}{ν:Nat→Nm}{g:G}{a:Act}{w:World}(h:Sat E.P X ν g a w){r:ResultVar}{p:PV}(hr:Zr E g r=some p) :
 ∃v,(Rc a.tmps r).run E.P w= .ok v w∧aJ w (dk X ν g.at) ν g.at p v:=by
 cases r with
 | tmp t=>simp only[Zr,Option.some.injEq] at hr;subst hr;exact⟨_,rfl,h.sl t⟩
 | cell s t=>simp only[Zr] at hr;have hv:=h.sl s;split at hr;rename_i k hk;rw[hk] at hv;simp only[aJ] at hv;obtain⟨_,b,hb,hv⟩:=hv;split at hr;rename_i cs ti hcs hti;split at hr;rename_i eO;have eO:=Xb eO;obtain rfl:=Option.some.inj hr;obtain⟨b',vs,T,hb',hheap,qI,_⟩:=h.en k _ hcs;obtain rfl:b'=b:=(by rw[hb'] at hb;simpa using hb);obtain⟨v,h1,h2⟩:=tm (E.ok t ti hti) w b' 0 vs (by rw[qI.length,eO]) (yW hheap);refine⟨v,?_,BL qI h2⟩;simp only[Rc,hv,asAddr,Sem.run_bind,Sem.run_pure,Result.andThen_ok,h1];cases hr;cases hr;cases hr
theorem RB{E:Env}{X:Cx}{ν:Nat→Nm}{g:G}{a:Act}{w:World}(h:Sat E.P X ν g a w):∀{rs:List ResultVar}{ps:List PV},yv E g rs=some ps →
 ∃vs,(rs.mapM (Rc a.tmps)).run E.P w= .ok vs w∧aH w (dk X ν g.at) ν g.at ps vs
 | [],ps,hr=>by simp only[yv,Option.some.injEq] at hr;subst hr;exact⟨[],rfl,by simp[aH]⟩
 | r::rs,ps,hr=>by simp only[yv] at hr;split at hr;rename_i p ps' h1 h2;obtain rfl:=Option.some.inj hr;obtain⟨v,k1,k2⟩:=acg h h1;obtain⟨vs,m1,m2⟩:=RB h h2;refine⟨v::vs,?_,by simp only[aH];exact⟨k2,m2⟩⟩;rw[List.mapM_cons];simp only[Sem.run_bind,Sem.run_pure];rw[k1];simp only[Result.andThen_ok];rw[m1];rfl;cases hr
theorem HA{E:Env}{X:Cx}{ν:Nat→Nm}{g:G}{a:Act}{w:World}(h:Sat E.P X ν g a w){fn:Func}{ps:List PV}(hr:yv E g fn.results.toList=some ps) :
 ∃v,(results fn a.tmps).run E.P w= .ok v w∧aJ w (dk X ν g.at) ν g.at (jd ps) v:=by
 obtain⟨vs,h1,h2⟩:=RB h hr
 have hl:=h2.length
 refine⟨_,by
  have e:results fn a.tmps=(do let vs ←fn.results.mapM (Rc a.tmps);pure (if h:vs.size=1 then vs[0] else .tuple vs)):=rfl
  rw[e,Array.mapM_eq_mapM_toList]
  simp only[Sem.run_bind,map_eq_pure_bind]
  rw[h1]
  simp only[Result.andThen_ok,Sem.run_pure]
  rfl,?_⟩
 match ps,vs,h2 with
 | [p],[v],h2=>simp only[aH,and_true] at h2;simpa[jd] using h2
 | [],[],h2=>simp only[jd,aJ];exact⟨[],by simp,h2⟩
 | p::q::ps,v::u::vs,h2=>simp only[jd,aJ];exact⟨v::u::vs,by simp,h2⟩
 | [],_::_,h2=>simp[aH] at h2
 | _::_,[],h2=>simp[aH] at h2
 | [_],_::_::_,h2=>simp[aH] at h2
 | _::_::_,[_],h2=>simp[aH] at h2
def afn(E:Env)(rs:List ResultVar)(n0:Nat)(R:PV→List (Option En)→Prop)(g:G):Prop:=
 ∃ps m res st',yv E g rs=some ps∧tu m [res]=[jd ps]∧res.lt st'.length=true∧m.length=st'.length∧m.Nodup∧pP g m st'.length m st'∧(∀i,i<n0→look m i=i∧i<m.length)∧R res st'
theorem afn.sat{E:Env}{rs:List ResultVar}{n0:Nat}{R:PV→List (Option En)→Prop}{g:G}(h:afn E rs n0 R g){X:Cx}{ν:Nat→Nm}{a:Act}{w:World}(hp:Par X n0)(hs:Sat E.P X ν g a w){fn:Func}(hfn:fn.results.toList=rs) :
 ∃v res st' ν',(results fn a.tmps).run E.P w= .ok v w∧R res st'∧UZ E.P X ν' res st' v w:=by
 obtain⟨ps,m,res,st',h1,h2,h3,h4,h5,h6,h7,h8⟩:=h
 obtain⟨v,hr,hv⟩:=HA hs (fn:=fn) (by rw[hfn];exact h1)
 refine⟨v,res,st',fun i=>ν (look m i),hr,h8,?_⟩
 have h2':res.nZ m=jd ps:=by simpa[tu] using h2
 rw[←h2'] at hv
 let Xc:Cx:=⟨w,Own (fun i=>ν (look m i)) (dV st'),fun i=>ν (look m i),dV st',fun b=>X.Z b∨(Own ν g.at b∧¬Own (fun i=>ν (look m i)) (dV st') b)⟩
 have hent:=hs.enter m [res] st' [v] h5 oM h6.at (by simpa[tu,aH] using hv) (by simp[wj,h3]) Xc rfl (fun _ _=>rfl) rfl rfl rfl
 have hownsub:∀b,Own (fun i=>ν (look m i)) (dV st') b→Own ν g.at b:=by rintro b ⟨i,e,k1,k2,k3⟩;have hi:=qn (by rw[k1];rfl);obtain⟨e',m1,m2,_⟩:=h6.at i hi;rw[k1] at m1;obtain rfl:=Option.some.inj m1;exact⟨look m i,_,m2,by rw[En.tf];exact k2,k3⟩
 have hfree:∀b,dk Xc (fun i=>ν (look m i)) (dV st') b→b<w.heap.size→dk X (fun i=>ν (look m i)) (dV st') b∧w.heap[b]?=w.heap[b]?:=
  fun b hb _=>⟨⟨hb.1,fun hz=>hb.2 (.inl hz)⟩,rfl⟩
 refine⟨by simp,fun t=>?_,fun i e he=>?_,hent.inj,fun b hb=>hs.base b (hownsub b hb),hent.nu,fun k hk=>?_,hs.Jy,hs.Da,rfl⟩
 ·exact aJ.frame hfree (aK _) (nH.refl _ _) _ _ (hent.sl t)
 ·exact(hent.en i e he).frame hfree (aK _) (nH.refl _ _) rfl (fun _ _ _=>rfl)
 ·obtain⟨k1,k2⟩:=h7 k (hp k hk)
  obtain⟨p1,p2⟩:=hs.par k hk
  refine⟨by show(ν (look m k)).v=_;rw[k1];exact p1,?_⟩
  obtain⟨e,q1,_⟩:=h6.at k oM
  show(dV st' k).isSome=true
  rw[q1];rfl
def VJ(D:G→Prop):Ex→G→Prop
 | .normal,g=>D g
 | .ret,g=>D g
 | .exit _,_=>False
theorem Th {E : Env} {f : FuncId} {fn : Func} {c : Code} {args : List PV} {fG : List (Option En)} {R : PV → List (Option En) → Prop} (hf : E.P.funcs[f]? = some fn) (hb : fn.body = some c) (hname : (fn.name == "runtime.NumGoroutine") = false)
 (D:G→Prop) (hD:∀(g:G)(X:Cx)(ν:Nat→Nm)(a:Act)(w:World),D g→Par X fG.length→Sat E.P X ν g a w→∃v res st' ν',(results fn a.tmps).run E.P w= .ok v w∧R res st'∧UZ E.P X ν' res st' v w)
 (h:W E.P fG.length c ⟨args++aE (fn.ntmps-args.length) .undef,fG⟩ (VJ D)):C E.P f args fG R:=by
 refine⟨⟨fn,hf,by rw[hb];rfl,hname⟩,fun X vs ld hO hs=>?_⟩
 have hvl:vs.length=args.length:=by have:=hs.size;simpa using this
 refine calls_of_wp hf hb ?_
 have hs':Sat E.P X X.ν0 ⟨args++aE (fn.ntmps-args.length) .undef,fG⟩ { tmps:=⟨vs⟩++Array.replicate (fn.ntmps-(⟨vs⟩:Array Value).size) Go.undef,defers:=[] } X.w0:=by
  refine⟨by simp[hvl],fun t=>?_,hs.en,hs.inj,hs.base,hs.nu,hs.par,hs.Jy,hs.Da,rfl⟩;have key:∀(ps:List PV)(us:List Value)(n t:Nat),ps.length=us.length→(∀t,aJ X.w0 (dk X X.ν0 (dV fG)) X.ν0 (dV fG) (nth ps t) (us.getD t Go.undef)) →
   aJ X.w0 (dk X X.ν0 (dV fG)) X.ν0 (dV fG) (nth (ps++aE n .undef) t) ((us++aE n Go.undef).getD t Go.undef):=by
   intro ps
   induction ps with
   | nil=>
    intro us n t hl _;obtain rfl:us=[]:=bR (by simpa using hl.symm);simp only[bS];have e1:∀n t,(aE n Go.undef).getD t Go.undef=Go.undef:=(by intro n t;simp only[List.getD,List.getElem?_replicate];split<;>rfl);have e2:∀n t,aJ X.w0 (dk X X.ν0 (dV fG)) X.ν0 (dV fG) (nth (aE n .undef) t) Go.undef:=by
     intro n;induction n with
     | zero=>intro t;cases t<;>simp[nth,aJ]
     | succ n ih=>
      intro t;cases t with
      | zero=>simp[gF,nth,aJ]
      | succ t=>simpa[gF,nth] using ih t
    rw[e1];exact e2 n t
   | cons p ps ih=>
    intro us n t hl hr;cases us with
    | nil=>simp at hl
    | cons u us=>
     cases t with
     | zero=>simpa[nth] using hr 0
     | succ t=>simp only[List.cons_append,nth,List.getD_cons_succ];exact ih us n t (by simpa using hl) fun t=>by simpa[nth] using hr (t+1)
  have:=key args vs (fn.ntmps-args.length) t hvl.symm (fun t=>by
   have h1:aJ X.w0 (dk X X.ν0 (dV fG)) X.ν0 (dV fG) (nth args t) ((⟨vs⟩:Array Value).getD t Go.undef):=hs.sl t
   simpa[dp] using h1)
  show aJ X.w0 (dk X X.ν0 (dV fG)) X.ν0 (dV fG) _ _;rw[dp,←Array.getElem?_toList];simpa[hvl] using this
 refine wp_mono (h X X.ν0 _ _ (fun k hk=>by rw[ld] at hk;exact qn hk) hs') fun e a' w' hl=>?_
 have hpar:Par X fG.length:=fun k hk=>by rw[ld] at hk;exact qn hk
 cases e with
 | normal=>obtain⟨g',ν',h1,h2⟩:=hl;obtain⟨v,res,st',ν2,k1,k2,k3⟩:=hD _ _ _ _ _ h1 hpar h2;exact⟨h2.defs,v,k1,v,res,st',ν2,rfl,k2,k3⟩
 | ret=>obtain⟨g',ν',h1,h2⟩:=hl;obtain⟨v,res,st',ν2,k1,k2,k3⟩:=hD _ _ _ _ _ h1 hpar h2;exact⟨h2.defs,v,k1,v,res,st',ν2,rfl,k2,k3⟩
 | exit id=>obtain⟨g',ν',h1,h2⟩:=hl;exact h1.elim
 | goto l=>exact hl.elim
 | panic c=>exact hl.elim
 | outgrown=>exact hl.elim
def zeroOf(P:Program)(t:TypeId):Value:=((P.info? t).bind (·.zero)).getD Go.undef
def qD(P:Program):List Field→List (Nat×Nat×Nat)→Bool
 | [],[]=>true
 | f::fs,(ft,off,sz)::xs=>f.type == ft&&f.offset == off&&P.cellsOf ft == sz&&decide (0<sz)&&qD P fs xs
 | _,_=>false
def wK(P:Program):TY→Option TypeDesc→Bool
 | .bool,some .bool=>true
 | .int k,some (.int k')=>decide (k=k')
 | .str,some .string=>true
 | .bA e,some (.pointer e')=>e == e'
 | .slice e,some (.slice e')=>e == e'
 | .arr n e,some (.array n' e')=>n == n'&&e == e'
 | .struct xs,some (.struct fields)=>qD P fields.toList xs
 | .other,some (.struct _)=>false
 | .other,some (.array _ _)=>false
 | .other,some _=>true
 | _,_=>false
def Qo(P:Program)(t:TypeId)(ti:TI):Bool:=
 match P.info? t with
 | some i=>i.size == ti.n&&i.bytes == ti.bytes&&i.zero.isSome&&(zeroOf P t).cells.size == ti.n&&decide (0<ti.n)&&(ti.isAgg||ti.n == 1)&&wK P ti.ty (P.underlying t)
 | none=>false
theorem Ao(P:Program):∀(fs:List Field)(xs:List (Nat×Nat×Nat)),qD P fs xs=true →
 fs.mapM (fun f=>(P.info? f.type).map fun i=>(f.offset,i.size))=some (xs.map fun x=>(x.2.1,x.2.2)) ∧
  ∀(j ft off sz:Nat),xs[j]?=some (ft,off,sz)→∃f,fs[j]?=some f∧f.type=ft∧f.offset=off∧P.cellsOf ft=sz∧0<sz
 | [],[],_=>⟨rfl,by simp⟩
 | [],_::_,h=>by simp[qD] at h
 | _::_,[],h=>by simp[qD] at h
 | f::fs,(ft,off,sz)::xs,h=>by
  simp only[qD,ah,beq_iff_eq,decide_eq_true_eq] at h;obtain⟨⟨⟨⟨h1,h2⟩,h3⟩,h4⟩,h5⟩:=h;obtain⟨k1,k2⟩:=Ao P fs xs h5;refine⟨?_,fun j a b c hj=>?_⟩
  ·rw[List.mapM_cons,k1];cases hq:P.info? f.type with
   | none=>rw[h1] at hq;simp[Program.cellsOf,hq] at h3;omega
   | some i=>rw[h1] at hq;have:i.size=sz:=(by simpa[Program.cellsOf,hq] using h3);simp[h2,this]
  cases j with
  | zero=>simp only[iV,Option.some.injEq,Prod.mk.injEq] at hj;obtain⟨rfl,rfl,rfl⟩:=hj;exact⟨f,rfl,h1,h2,h3,h4⟩
  | succ j=>obtain⟨f',m1,m2⟩:=k2 j a b c (by simpa using hj);exact⟨f',by simpa using m1,m2⟩
theorem TI.Ok.aaX{P:Program}{t:TypeId}{ti:TI}(h:Qo P t ti=true)(hz:Py (zeroOf P t).cells.toList=ti.zero):TI.Ok P t ti:=by
 unfold Qo at h;cases hi:P.info? t with
 | none=>rw[hi] at h;cases h
 | some i=>
  rw[hi] at h;simp only[ah,beq_iff_eq,decide_eq_true_eq,iH] at h;obtain⟨⟨⟨⟨⟨⟨h1,h2⟩,h3⟩,h4⟩,h5⟩,h6⟩,h7⟩:=h;obtain⟨z,hzz⟩:=dA.1 h3;have hzo:zeroOf P t=z:=(by simp[zeroOf,hi,hzz]);rw[hzo] at hz h4;refine⟨⟨i,z,hi,h1,h2,hzz,hz,h4⟩,h5,fun ha=>?_,?_⟩;rcases h6 with h6|h6;rw[ha] at h6;cases h6;exact h6;cases mI:ti.ty with
  | struct xs=>
   rw[mI] at h7;cases hu:P.underlying t with
   | none=>rw[hu] at h7;cases h7
   | some d=>
    rw[hu] at h7;cases d<;>simp only[wK] at h7<;>first
     | (cases h7;done)
     | (rename_i fields
        obtain⟨k1,k2⟩:=Ao P _ _ h7
        refine⟨fields,hu,k1,fun j ft off sz hj=>?_⟩
        obtain⟨f,m1,m2⟩:=k2 j ft off sz hj
        exact⟨f,by simpa using m1,m2⟩)
  | other=>
   rw[mI] at h7;cases hu:P.underlying t with
   | none=>rw[hu] at h7;cases h7
   | some d=>
    rw[hu] at h7;refine⟨d,hu,?_⟩;cases d<;>simp only[wK] at h7<;>first
     | (cases h7;done)
     | trivial
  | int k=>
   rw[mI] at h7;cases hu:P.underlying t with
   | none=>rw[hu] at h7;cases h7
   | some d=>
    rw[hu] at h7;cases d<;>simp only[wK] at h7<;>first
     | (cases h7;done)
     | (simp only[decide_eq_true_eq] at h7;subst h7;exact hu)
  | bA k=>
   rw[mI] at h7;cases hu:P.underlying t with
   | none=>rw[hu] at h7;cases h7
   | some d=>
    rw[hu] at h7;cases d<;>simp only[wK] at h7<;>first
     | (cases h7;done)
     | (simp only[beq_iff_eq] at h7;subst h7;exact hu)
  | slice k=>
   rw[mI] at h7;cases hu:P.underlying t with
   | none=>rw[hu] at h7;cases h7
   | some d=>
    rw[hu] at h7;cases d<;>simp only[wK] at h7<;>first
     | (cases h7;done)
     | (simp only[beq_iff_eq] at h7;subst h7;exact hu)
  | arr n k=>
   rw[mI] at h7;cases hu:P.underlying t with
   | none=>rw[hu] at h7;cases h7
   | some d=>
    rw[hu] at h7;cases d<;>simp only[wK] at h7<;>first
     | (cases h7;done)
     | (simp only[beq_iff_eq,ah] at h7;obtain⟨rfl,rfl⟩:=h7;exact hu)
  | _=>
   rw[mI] at h7;cases hu:P.underlying t with
   | none=>rw[hu] at h7;cases h7
   | some d=>
    rw[hu] at h7;cases d<;>simp only[wK] at h7<;>first
     | (cases h7;done)
     | exact hu
def Va:List (Option TI)→Nat→Option TI
 | [],_=>none
 | x::_,0=>x
 | _::xs,n+1=>Va xs n
def w6(P:Program):Nat→List (Option TI)→Prop
 | _,[]=>True
 | k,none::r=>w6 P (k+1) r
 | k,some i::r=>TI.Ok P k i∧w6 P (k+1) r
theorem w6.get{P:Program}:∀{k:Nat}{l:List (Option TI)},w6 P k l→∀t i,Va l t=some i→TI.Ok P (k+t) i
 | k,[],_,t,i,h=>by cases t<;>simp[Va] at h
 | k,none::r,h,0,i,hi=>by simp[Va] at hi
 | k,some x::r,h,0,i,hi=>by simp only[Va,Option.some.injEq] at hi;subst hi;exact h.1
 | k,none::r,h,t+1,i,hi=>by have:=w6.get (k:=k+1) (l:=r) h t i hi;rw[show k+(t+1)=k+1+t from by omega];exact this
 | k,some _::r,h,t+1,i,hi=>by have:=w6.get (k:=k+1) (l:=r) h.2 t i hi;rw[show k+(t+1)=k+1+t from by omega];exact this
theorem w6.all{P:Program}{l:List (Option TI)}(h:w6 P 0 l):∀t i,Va l t=some i→TI.Ok P t i:=fun t i hi=>by
 have:=h.get t i hi
 rwa [eu] at this
def Bt(P:Program):Nat→List (Option TI)→Bool
 | _,[]=>true
 | k,none::l=>Bt P (k+1) l
 | k,some i::l=>Qo P k i&&Bt P (k+1) l
def Li(P:Program):Nat→List (Option TI)→List (List PV)
 | _,[]=>[]
 | k,none::l=>Li P (k+1) l
 | k,some _::l=>Py (zeroOf P k).cells.toList::Li P (k+1) l
def KD:List (Option TI)→List (List PV)
 | []=>[]
 | none::l=>KD l
 | some i::l=>i.zero::KD l
theorem w6.GA{P:Program}:∀{k:Nat}{l:List (Option TI)},Bt P k l=true→Li P k l=KD l→w6 P k l
 | _,[],_,_=>trivial
 | k,none::l,h,hz=>by simp only[Bt] at h;simp only[Li,KD] at hz;show w6 P (k+1) l;exact w6.GA (k:=k+1) (l:=l) h hz
 | k,some i::l,h,hz=>by simp only[Bt,ah] at h;simp only[Li,KD,List.cons.injEq] at hz;exact⟨TI.Ok.aaX h.1 hz.1,w6.GA (k:=k+1) (l:=l) h.2 hz.2⟩
structure Ky where
 rs:List Nat
 rp:List Nat
 ws:List Nat
 wp:List Nat
def Dl.ws(δ:Dl):List Nat:=match δ.dst with|some (d,_)=>[d]|none=>[]
def Dl.wp(δ:Dl):List Nat:=δ.up.map (·.1)
def pE(R:Rd)(δ:Dl):Ky:=⟨R.s,R.p,δ.ws,δ.wp⟩
def Bn:Nat→List Nat→Bool
 | _,[]=>false
 | a,b::bs=>a == b||Bn a bs
def meets:List Nat→List Nat→Bool
 | [],_=>false
 | a::as,bs=>Bn a bs||meets as bs
theorem td{a:Nat}:∀{l:List Nat},Bn a l=true↔a∈l
 | []=>by simp[Bn]
 | b::bs=>by simp[Bn,td (l:=bs)]
theorem oP:∀{l m:List Nat},meets l m=false→∀a,a∈l→a∈m→False
 | [],_,_,a,h,_=>by simp at h
 | b::bs,m,h,a,h1,h2=>by simp only[meets,Bool.or_eq_false_iff] at h;rcases az.1 h1 with rfl|h1;exact absurd (td.2 h2) (by simp[h.1]);exact oP h.2 a h1 h2
def Ky.CI(x y:Ky):Bool:=meets x.ws y.rs||meets x.ws y.ws||meets x.rs y.ws||meets x.wp y.rp||meets x.wp y.wp||meets x.rp y.wp
def nM(o:Oper):List Nat:=(o.after.toList.filter (Region.binds .any)).map (·.on)
def yM(T:List (List Nat)):List Nat→List Nat
 | []=>[]
 | j::js=>j::(T.getD j []++yM T js)
def FG:List Oper→List (List Nat)→List (List Nat)
 | [],T=>T
 | o::os,T=>FG os (T++[yM T (nM o)])
def fwd(i:Nat):List Nat→Bool
 | []=>true
 | j::js=>decide (j<i)&&fwd i js
def abt:Nat→List Oper→Bool
 | _,[]=>true
 | i,o::os=>fwd i (nM o)&&abt (i+1) os
def FZ(b:List Nat)(y:Ky):Nat→List Ky→Bool
 | _,[]=>true
 | j,x::xs=>(Bn j b|| !(x.CI y))&&FZ b y (j+1) xs
def GU(T:List (List Nat)):Nat→List Ky→List Ky→Bool
 | _,_,[]=>true
 | i,pre,y::ys=>FZ (T.getD i []) y 0 pre&&GU T (i+1) (pre++[y]) ys
def indep(os:List Oper)(L:List Ky):Bool:=abt 0 os&&GU (FG os []) 0 [] L
theorem Sf{i:Nat}:∀{l:List Nat},fwd i l=true→∀j∈l,j<i
 | [],_=>by simp
 | b::bs,h=>by simp only[fwd,ah,decide_eq_true_eq] at h;intro j hj;rcases az.1 hj with rfl|hj;exact h.1;exact Sf h.2 j hj
theorem Oa:∀{os:List Oper}{i:Nat},abt i os=true→∀(k:Nat)(o:Oper),os[k]?=some o→∀j∈nM o,j<i+k
 | [],_,_,k,o,h=>by simp at h
 | o'::os,i,hf,k,o,h=>by
  simp only[abt,ah] at hf;cases k with
  | zero=>
   obtain rfl:o'=o:=by simpa using h
   simpa using Sf hf.1
  | succ k=>have:=Oa hf.2 k o (by simpa using h);intro j hj;have:=this j hj;omega
theorem CV{T:List (List Nat)}{S:Nat→Prop}(hT:∀j,S j→∀k∈T.getD j [],S k):∀(js:List Nat),(∀j∈js,S j)→∀k∈yM T js,S k
 | [],_,k,h=>by simp[yM] at h
 | j::js,hj,k,h=>by simp only[yM,az,aO] at h;rcases h with rfl|h|h;exact hj _ (by simp);exact hT j (hj j (by simp)) k h;exact CV hT js (fun j h=>hj j (by simp[h])) k h
theorem As{S:Nat→Prop}:∀(os:List Oper)(T:List (List Nat)),(∀(k:Nat)(o:Oper),os[k]?=some o→S (T.length+k)→∀j∈nM o,S j) →
 (∀j,S j→∀k∈T.getD j [],S k)→∀j,S j→∀k∈(FG os T).getD j [],S k
 | [],T,_,hT=>hT
 | o::os,T,ho,hT=>by
  refine As os _ (fun k o' hk hS=>?_) (fun j hS k hk=>?_);refine ho (k+1) o' (by simpa using hk) ?_;have:(T++[yM T (nM o)]).length+k=T.length+(k+1):=(by simp;omega);rw[←this];exact hS;rcases fV j T.length with h|h|h;refine hT j hS k ?_;rw[aB,bF h] at hk
  rwa [aB];subst h;rw[aB,bO (aK _)] at hk;simp only[mo,iV,cg] at hk;exact CV hT _ (fun j hj=>ho 0 o rfl hS j hj) k hk;rw[aB,bM (by simp;omega)] at hk;simp at hk
theorem HX{b:List Nat}{y:Ky}:∀{l:List Ky}{j:Nat},FZ b y j l=true→∀(k:Nat)(x:Ky),l[k]?=some x→j+k∈b∨x.CI y=false
 | [],_,_,k,x,h=>by simp at h
 | x'::xs,j,hc,k,x,h=>by
  simp only[FZ,ah,iH,Bool.not_eq_true'] at hc;cases k with
  | zero=>
   obtain rfl:x'=x:=by simpa using h
   exact hc.1.imp td.1 id
  | succ k=>
    have:=HX hc.2 k x (by simpa using h)
    rwa [show j+1+k=j+(k+1) by omega] at this
theorem Hq{T:List (List Nat)}:∀{l pre:List Ky}{i:Nat},pre.length=i→GU T i pre l=true→∀(j k:Nat)(x y:Ky),j<k→(pre++l)[j]?=some x→(pre++l)[k]?=some y→i≤k→j∈T.getD k []∨x.CI y=false
 | [],pre,i,hl,_,j,k,x,y,_,_,hy,hik=>by rw[List.append_nil,bM oM] at hy;cases hy
 | z::zs,pre,i,hl,hc,j,k,x,y,nR,hx,hy,hik=>by
  simp only[GU,ah] at hc;by_cases hk:k=i;subst hk;rw[bO oM,hl,mo] at hy;obtain rfl:z=y:=by simpa using hy
  rw[bF oM] at hx;simpa using HX hc.1 j x hx;exact Hq (pre:=pre++[z]) (by simp[hl]) hc.2 j k x y nR (by simpa using hx) (by simpa using hy) oM
theorem KU{os:List Oper}{L:List Ky}(h:indep os L=true):(∀(k:Nat)(o:Oper),os[k]?=some o→∀j∈nM o,j<k) ∧
 ∀(S:Nat→Prop),(∀(k:Nat)(o:Oper),os[k]?=some o→S k→∀j∈nM o,S j)→∀(j k:Nat)(x y:Ky),j<k→L[j]?=some x→L[k]?=some y→x.CI y=true→S k→S j:=by
 simp only[indep,ah] at h
 refine⟨fun k o ho j hj=>by simpa using Oa h.1 k o ho j hj,fun S hS j k x y nR hx hy hc hk=>?_⟩
 rcases Hq (pre:=[]) rfl h.2 j k x y nR (by simpa using hx) (by simpa using hy) (bo _) with h1|h1
 ·exact As os [] (by simpa using hS) (by simp) k hk j h1
 ·rw[hc] at h1;cases h1
def vF{α β:Type}(wr:α→Option β)(S:Nat→Bool):Nat→List α→β→β
 | _,[],v=>v
 | i,x::xs,v=>vF wr S (i+1) xs (match S i,wr x with|true,some u=>u|_,_=>v)
theorem Aq{α β:Type}{wr:α→Option β}{S S':Nat→Bool}:∀{xs:List α}{i:Nat}{v:β},(∀(k:Nat)(x:α),xs[k]?=some x→(wr x).isSome=true→S (i+k)=S' (i+k))→vF wr S i xs v=vF wr S' i xs v
 | [],_,_,_=>rfl
 | x::xs,i,v,h=>by
  simp only[vF];have h0:=h 0 x rfl;simp only[jw] at h0;have e:(match S i,wr x with|true,some u=>u|_,_=>v)=(match S' i,wr x with|true,some u=>u|_,_=>v):=by
   cases hw:wr x with
   | none=>cases S i<;>cases S' i<;>rfl
   | some u=>rw[h0 (by rw[hw];rfl)]
  rw[e];exact Aq fun k y hk hy=>by
   have:=h (k+1) y (by simpa using hk) hy
   rwa [show i+1+k=i+(k+1) by omega]
theorem W6{α β:Type}{wr:α→Option β}{S:Nat→Bool}:∀{xs:List α}{i:Nat}{v:β},(∀(k:Nat)(x:α),xs[k]?=some x→(wr x).isSome=true→S (i+k)=false)→vF wr S i xs v=v
 | [],_,_,_=>rfl
 | x::xs,i,v,h=>by
  simp only[vF];have h0:=h 0 x rfl;simp only[jw] at h0;have e:(match S i,wr x with|true,some u=>u|_,_=>v)=v:=by
   cases hw:wr x with
   | none=>cases S i<;>rfl
   | some u=>rw[h0 (by rw[hw];rfl)]
  rw[e];exact W6 fun k y hk hy=>by
   have:=h (k+1) y (by simpa using hk) hy
   rwa [show i+1+k=i+(k+1) by omega]
theorem Pw{α β:Type}{wr:α→Option β}{S:Nat→Bool}:∀{xs:List α}{i n:Nat}{v u:β}{x:α},xs[n]?=some x→wr x=some u→S (i+n)=true →
 (∀(k:Nat)(x:α),n<k→xs[k]?=some x→(wr x).isSome=true→S (i+k)=false)→vF wr S i xs v=u
 | [],_,_,_,_,_,h,_,_,_=>by simp at h
 | y::xs,i,0,v,u,x,h,hu,hS,hl=>by
  obtain rfl:y=x:=by simpa using h
  simp only[vF];simp only[jw] at hS;rw[hS,hu];exact W6 fun k z hk hz=>by
   have:=hl (k+1) z oM (by simpa using hk) hz
   rwa [show i+1+k=i+(k+1) by omega]
 | y::xs,i,n+1,v,u,x,h,hu,hS,hl=>by
  simp only[vF];exact Pw (n:=n) (by simpa using h) hu (by rwa [show i+1+n=i+(n+1) by omega]) fun k z hk hkz hz=>by
   have:=hl (k+1) z oM (by simpa using hkz) hz
   rwa [show i+1+k=i+(k+1) by omega]
def slW(t:Nat)(δ:Dl):Option PV:=match δ.dst with|some (d,p)=>if d=t then some p else none|none=>none
def zh(k:Nat):List (Nat×En)→Option (Option En)
 | []=>none
 | (j,e)::r=>match zh k r with|some x=>some x|none=>if j=k then some (some e) else none
def stW(k:Nat)(δ:Dl):Option (Option En):=zh k δ.up
theorem TC(k:Nat):∀(r:List (Nat×En))(st:List (Option En)),dV (B4 st r) k=(zh k r).getD (dV st k)
 | [],_=>rfl
 | (j,e)::r,st=>by
  simp only[B4,zh];rw[TC k r,iT];cases h:zh k r with
  | some x=>rfl
  | none=>by_cases hj:j=k;simp[hj];have:¬k=j:=fun e=>hj e.symm;simp[hj,this]
theorem zl{k:Nat}:∀{r:List (Nat×En)},(zh k r).isSome=true→k∈r.map (·.1)
 | [],h=>by simp[zh] at h
 | (j,e)::r,h=>by
  simp only[zh] at h;cases hr:zh k r with
  | some x=>simp[zl (r:=r) (by rw[hr];rfl)]
  | none=>rw[hr] at h;by_cases hj:j=k;simp[hj];simp[hj] at h
def PT(S:Nat→Bool):Nat→List Dl→G→G
 | _,[],g=>g
 | i,x::xs,g=>PT S (i+1) xs (if S i then g.app x else g)
theorem JJ(g:G)(δ:Dl):(g.app δ).sl.length=g.sl.length:=by
 unfold G.app xF;cases δ.dst with
 | none=>rfl
 | some q=>obtain⟨d,p⟩:=q;exact lq _ _ _
theorem wQ(S:Nat→Bool):∀(xs:List Dl)(i:Nat)(g:G),(PT S i xs g).sl.length=g.sl.length
 | [],_,_=>rfl
 | x::xs,i,g=>by simp only[PT];rw[wQ S xs];split;exact JJ g x;rfl
theorem Sm{g:G}{δ:Dl}{t:Nat}(ht:t<g.sl.length):nth (g.app δ).sl t=(slW t δ).getD (nth g.sl t):=by
 unfold G.app xF slW;cases δ.dst with
 | none=>rfl
 | some q=>obtain⟨d,p⟩:=q;simp only[pM];by_cases h:d=t;subst h;simp[ht];have:¬t=d:=fun e=>h e.symm;simp[h,this]
theorem abz{g:G}{δ:Dl}{k:Nat}:(g.app δ).at k=(stW k δ).getD (g.at k):=by simp only[G.app,G.at,stW];exact TC k _ _
theorem xW(S:Nat→Bool){t:Nat}:∀(xs:List Dl)(i:Nat)(g:G),t<g.sl.length→nth (PT S i xs g).sl t=vF (slW t) S i xs (nth g.sl t)
 | [],_,_,_=>rfl
 | x::xs,i,g,ht=>by
  simp only[PT,vF];cases hS:S i with
  | false=>simp only[au,if_false];exact xW S xs (i+1) g ht
  | true=>simp only[if_true];rw[xW S xs (i+1) (g.app x) (by rw[JJ];exact ht),Sm ht];cases slW t x<;>rfl
theorem Hb(S:Nat→Bool){k:Nat}:∀(xs:List Dl)(i:Nat)(g:G),(PT S i xs g).at k=vF (stW k) S i xs (g.at k)
 | [],_,_=>rfl
 | x::xs,i,g=>by
  simp only[PT,vF];cases hS:S i with
  | false=>simp only[au,if_false];exact Hb S xs (i+1) g
  | true=>simp only[if_true];rw[Hb S xs (i+1) (g.app x),abz];cases stW k x<;>rfl
theorem AZ:∀{l:List PV}{t:Nat},l.length≤t→nth l t= .any
 | [],_,_=>rfl
 | _::l,0,h=>by simp at h
 | _::l,t+1,h=>AZ (l:=l) (by simpa using h)
structure Eqv(g g':G):Prop where
 len:g.sl.length=g'.sl.length
 s:∀t,nth g.sl t=nth g'.sl t
 p:∀k,g.at k=g'.at k
theorem Sat.eqv{P:Program}{X:Cx}{ν:Nat→Nm}{g g':G}{a:Act}{w:World}(h:Sat P X ν g a w)(e:Eqv g g'):Sat P X ν g' a w:=by have ea:g.at=g'.at:=funext e.p;refine⟨h.size.trans e.len,fun t=>?_,?_,?_,?_,?_,?_,h.Jy,h.Da,h.defs⟩;rw[←e.s t,←ea];exact h.sl t;rw[←ea];exact h.en;rw[←ea];exact h.inj;rw[←ea];exact h.base;rw[←ea];exact h.nu;rw[←ea];exact h.par
theorem Sat.drawn{P:Program}{X:Cx}{ν:Nat→Nm}{g:G}{a:Act}{w:World}(h:Sat P X ν g a w)(n:Nat):Sat P X ν g a { w with drawn:=n }:=by have hf:∀b,dk X ν g.at b→b<w.heap.size→dk X ν g.at b∧({ w with drawn:=n }:World).heap[b]?=w.heap[b]?:=fun b hb _=>⟨hb,rfl⟩;refine⟨h.size,fun t=>aJ.frame hf (aK _) (nH.refl _ _) _ _ (h.sl t),fun k e he=>(h.en k e he).frame hf (aK _) (nH.refl _ _) rfl (fun _ _ _=>rfl),h.inj,h.base,h.nu,h.par,h.Jy,?_,h.defs⟩;exact⟨h.Da.os,h.Da.tape,h.Da.output,h.Da.size,h.Da.block⟩
inductive Ew(P:Program)(ops:Array Oper):List Oper→G→List (Rd×Dl)→Prop where
 | nil(g:G):Ew P ops [] g []
 | cons {o:Oper} {os:List Oper} {g:G} {R:Rd} {δ:Dl} {L:List (Rd×Dl)} (h:IJ P ops o g R δ) (hr:Ew P ops os (g.app δ) L):Ew P ops (o::os) g ((R,δ)::L)
def Kf(g:G):List (Rd×Dl)→G
 | []=>g
 | x::xs=>Kf (g.app x.2) xs
theorem Ew.length{P:Program}{ops:Array Oper}{os:List Oper}{g:G}{L:List (Rd×Dl)}(h:Ew P ops os g L):L.length=os.length:=by
 induction h with
 | nil g=>rfl
 | cons h hr ih=>simp[ih]
theorem Ew.at{P:Program}{ops:Array Oper}{os:List Oper}{g:G}{L:List (Rd×Dl)}(h:Ew P ops os g L):∀(i:Nat)(o:Oper)(x:Rd×Dl),os[i]?=some o→L[i]?=some x→IJ P ops o (Kf g (L.take i)) x.1 x.2:=by
 induction h with
 | nil g=>intro i o x h;simp at h
 | cons h hr ih=>
  intro i o x h1 h2;cases i with
  | zero=>obtain rfl:=Option.some.inj (show some _=some o from by simpa using h1);obtain rfl:=Option.some.inj (show some _=some x from by simpa using h2);exact h
  | succ i=>exact ih i o x (by simpa using h1) (by simpa using h2)
theorem Ld{S:Nat→Bool}:∀(xs:List Dl)(i:Nat)(g:G),(∀k,k<xs.length→S (i+k)=false)→PT S i xs g=g
 | [],_,_,_=>rfl
 | x::xs,i,g,h=>by
  simp only[PT];have h0:=h 0 (by simp);simp only[jw] at h0;rw[h0];exact Ld xs (i+1) _ fun k hk=>by
   have:=h (k+1) (by simpa using hk)
   rwa [show i+1+k=i+(k+1) by omega]
theorem Tv:∀(L:List (Rd×Dl))(i n:Nat)(g:G),PT (fun j=>decide (j<i+n)) i (L.map (·.2)) g=Kf g (L.take n)
 | [],_,n,_=>by cases n<;>rfl
 | x::xs,i,0,g=>by simp only[List.take_zero,Kf];exact Ld _ _ _ fun k hk=>by simp
 | x::xs,i,n+1,g=>by
   simp only[aV,PT,List.take_succ_cons,Kf]
   rw[if_pos (by simp)]
   have:=Tv xs (i+1) n (g.app x.2)
   rwa [show i+1+n=i+(n+1) by omega] at this
theorem Xt(S:Nat→Bool):∀(L:List (Rd×Dl))(i:Nat)(g:G),(∀k,k<L.length→S (i+k)=true)→PT S i (L.map (·.2)) g=Kf g L
 | [],_,_,_=>rfl
 | x::xs,i,g,h=>by
  simp only[aV,PT,Kf];rw[if_pos (by have:=h 0 (by simp);simpa using this)];exact Xt S xs (i+1) _ fun k hk=>by
   have:=h (k+1) (by simpa using hk)
   rwa [show i+1+k=i+(k+1) by omega]
theorem Rr{t:Nat}{δ:Dl}(h:(slW t δ).isSome=true):t∈δ.ws:=by
 unfold slW at h;unfold Dl.ws;cases hd:δ.dst with
 | none=>rw[hd] at h;cases h
 | some q=>obtain⟨d,p⟩:=q;rw[hd] at h;simp only at h;by_cases e:d=t;subst e;simp;simp[e] at h
theorem xP{x y:Ky}{a:Nat}:(a∈x.ws∧a∈y.rs)∨(a∈x.ws∧a∈y.ws)∨(a∈x.rs∧a∈y.ws)∨(a∈x.wp∧a∈y.rp)∨(a∈x.wp∧a∈y.wp)∨(a∈x.rp∧a∈y.wp)→x.CI y=true:=by
 intro h;cases hc:x.CI y with
 | true=>rfl
 | false=>simp only[Ky.CI,Bool.or_eq_false_iff] at hc;obtain⟨⟨⟨⟨⟨h1,h2⟩,h3⟩,h4⟩,h5⟩,h6⟩:=hc;rcases h with h|h|h|h|h|h;exact(oP h1 a h.1 h.2).elim;exact(oP h2 a h.1 h.2).elim;exact(oP h3 a h.1 h.2).elim;exact(oP h4 a h.1 h.2).elim;exact(oP h5 a h.1 h.2).elim;exact(oP h6 a h.1 h.2).elim
theorem aco{L:List (Rd×Dl)}{os:List Oper}(eO:L.length=os.length)(hi:indep os (L.map fun x=>pE x.1 x.2)=true)(g:G)(S:Nat→Bool)(hS:∀(k:Nat)(o:Oper),os[k]?=some o→S k=true→∀j∈nM o,S j=true)
 {i:Nat} {o:Oper} {x:Rd×Dl} (ho:os[i]?=some o) (hx:L[i]?=some x) (hd:∀j∈nM o,S j=true) (hn:S i=false) :
 FF x.1 (Kf g (L.take i)) (PT S 0 (L.map (·.2)) g)∧Eqv ((PT S 0 (L.map (·.2)) g).app x.2) (PT (fun j=>if j=i then true else S j) 0 (L.map (·.2)) g):=by
 obtain⟨hf,hcl⟩:=KU hi
 have hkey:∀(j:Nat)(y:Rd×Dl),L[j]?=some y→(L.map fun x=>pE x.1 x.2)[j]?=some (pE y.1 y.2):=fun j y h=>by simp[h]
 have hS':∀(k:Nat)(o:Oper),os[k]?=some o→(fun j=>(if j=i then true else S j)=true) k→∀j∈nM o,(fun j=>(if j=i then true else S j)=true) j:=by intro k o' hk hSk j hj;by_cases Zm:k=i;subst Zm;obtain rfl:=Option.some.inj (ho.symm.trans hk);have:=hd j hj;show(if j=k then true else S j)=true;split<;>(first|rfl|exact this);simp only[Zm,if_false] at hSk;have:=hS k o' hk hSk j hj;show(if j=i then true else S j)=true;split<;>first|rfl|exact this
 have hbefore:∀(j:Nat)(y:Rd×Dl),L[j]?=some y→j<i→(pE y.1 y.2).CI (pE x.1 x.2)=true→S j=true:=by intro j y hy hji hc;have:=hcl (fun j=>(if j=i then true else S j)=true) hS' j i _ _ hji (hkey j y hy) (hkey i x hx) hc (by simp);simpa[show ¬j=i by omega] using this
 have hafter:∀(j:Nat)(y:Rd×Dl),L[j]?=some y→i<j→(pE x.1 x.2).CI (pE y.1 y.2)=true→S j=false:=by
  intro j y hy hij hc;cases hj:S j with
  | false=>rfl
  | true=>have:=hcl (fun j=>S j=true) hS i j _ _ hij (hkey i x hx) (hkey j y hy) hc hj;rw[hn] at this;cases this
 have hgi:Kf g (L.take i)=PT (fun j=>decide (j<i)) 0 (L.map (·.2)) g:=by have:=Tv L 0 i g;simpa using this.symm
 have hget:∀(k:Nat)(δ:Dl),(L.map (·.2))[k]?=some δ→∃y,L[k]?=some y∧y.2=δ:=by intro k δ h;simp only[jx,Option.map_eq_some_iff] at h;exact h
 refine⟨⟨fun t ht=>?_,fun k hk=>?_⟩,⟨by rw[JJ,wQ,wQ],fun t=>?_,fun k=>?_⟩⟩
 ·rw[hgi]
  rcases cz t g.sl.length with nS|hge
  ·rw[xW _ _ _ _ nS,xW _ _ _ _ nS]
   refine Aq fun j δ hj hw=>?_
   obtain⟨y,hy,rfl⟩:=hget j δ hj
   have hm:=Rr hw
   simp only[eu]
   rcases fV j i with h|h|h
   ·rw[hbefore j y hy h (xP (a:=t) (.inl ⟨hm,ht⟩))]
    simp[h]
   ·subst h;rw[hn];simp
   ·rw[hafter j y hy h (xP (a:=t) (.inr (.inr (.inl ⟨ht,hm⟩))))]
    simp;omega
  ·rw[AZ (by rw[wQ];exact hge),AZ (by rw[wQ];exact hge)]
 ·rw[hgi,Hb,Hb]
  refine Aq fun j δ hj hw=>?_
  obtain⟨y,hy,rfl⟩:=hget j δ hj
  have hm:k∈y.2.wp:=zl hw
  simp only[eu]
  rcases fV j i with h|h|h
  ·rw[hbefore j y hy h (xP (a:=k) (.inr (.inr (.inr (.inl ⟨hm,hk⟩)))))]
   simp[h]
  ·subst h;rw[hn];simp
  ·rw[hafter j y hy h (xP (a:=k) (.inr (.inr (.inr (.inr (.inr ⟨hk,hm⟩))))))]
   simp;omega
 ·rcases cz t g.sl.length with nS|hge
  ·rw[Sm (by rw[wQ];exact nS),xW _ _ _ _ nS,xW _ _ _ _ nS]
   cases hw:slW t x.2 with
   | none=>refine Aq fun j δ hj hwj=>?_;obtain⟨y,hy,rfl⟩:=hget j δ hj;simp only[eu];by_cases hji:j=i;subst hji;obtain rfl:=Option.some.inj (hx.symm.trans hy);rw[hw] at hwj;cases hwj;simp[hji]
   | some u=>have hmx:t∈x.2.ws:=Rr (by rw[hw];rfl);refine(Pw (n:=i) (x:=x.2) (by simp[hx]) hw (by simp) fun j δ hji hj hwj=>?_).symm;obtain⟨y,hy,rfl⟩:=hget j δ hj;have hm:=Rr hwj;simp only[eu,show ¬j=i by omega,if_false];exact hafter j y hy hji (xP (a:=t) (.inr (.inl ⟨hmx,hm⟩)))
  ·rw[AZ (by rw[JJ,wQ];exact hge),AZ (by rw[wQ];exact hge)]
 ·rw[abz,Hb,Hb]
  cases hw:stW k x.2 with
  | none=>refine Aq fun j δ hj hwj=>?_;obtain⟨y,hy,rfl⟩:=hget j δ hj;simp only[eu];by_cases hji:j=i;subst hji;obtain rfl:=Option.some.inj (hx.symm.trans hy);rw[hw] at hwj;cases hwj;simp[hji]
  | some u=>have hmx:k∈x.2.wp:=zl (by unfold stW at hw;rw[hw];rfl);refine(Pw (n:=i) (x:=x.2) (by simp[hx]) hw (by simp) fun j δ hji hj hwj=>?_).symm;obtain⟨y,hy,rfl⟩:=hget j δ hj;have hm:k∈y.2.wp:=zl hwj;simp only[eu,show ¬j=i by omega,if_false];exact hafter j y hy hji (xP (a:=k) (.inr (.inr (.inr (.inr (.inl ⟨hmx,hm⟩))))))
def left(listed:Array Bool)(n:Nat):Nat:=((bK n).filter fun j=>!listed.getD j false).length
theorem filter_lt{p q:Nat→Bool}{i:Nat}:∀{l:List Nat},(∀j,q j=true→p j=true)→i∈l→p i=true→q i=false→(l.filter q).length<(l.filter p).length
 | [],_,h,_,_=>by simp at h
 | a::l,hpq,h,hp,hq=>by
  have hle:∀l:List Nat,(l.filter q).length≤(l.filter p).length:=by
   intro l;induction l with
   | nil=>simp
   | cons b l ih=>
    simp only[fP];cases hqb:q b with
    | false=>simp only[au,if_false];split;simp only[aY];omega;exact ih
    | true=>simp only[hpq b hqb,if_true,aY];omega
  rcases az.1 h with rfl|h;simp only[fP,hp,hq,if_true,au,if_false,aY];have:=hle l;omega;have ih:=filter_lt hpq h hp hq;simp only[fP];cases hqa:q a with
  | false=>simp only[au,if_false];split;simp only[aY];omega;exact ih
  | true=>simp only[hpq a hqa,if_true,aY];omega
theorem Ql{l:Array Bool}{i:Nat}(h:i<l.size):l.getD i true=l.getD i false:=by simp[h]
theorem Ii{o:Oper}{j:Nat}:j∈nM o↔∃e∈o.after,Region.binds .any e=true∧e.on=j:=by simp only[nM,List.mem_map,gy,Array.mem_toList_iff];constructor;rintro⟨e,⟨h1,h2⟩,h3⟩;exact⟨e,h1,h2,h3⟩;rintro⟨e,h1,h2,h3⟩;exact⟨e,⟨h1,h2⟩,h3⟩
theorem agx{P:Program}{n0:Nat}{g:G}{Q:Ex→G→Prop}(hm:P.follows .mixedOrders=true){id:Nat}{ops:Array Oper}{L:List (Rd×Dl)}(hc:Ew P ops ops.toList g L)(hi:indep ops.toList (L.map fun x=>pE x.1 x.2)=true)
 (hk:Q .normal (Kf g L)):W P n0 (.region id ops true) g Q:=by
 intro X ν a w hp hs
 have eO:=hc.length
 have hsz:L.length=ops.size:=by simpa using eO
 refine wp_region_any hm ?_
 have key:∀(fuel:Nat)(listed:Array Bool)(ν:Nat→Nm)(a:Act)(w:World),listed.size=ops.size→left listed ops.size≤fuel →
  (∀(k:Nat)(o:Oper),ops.toList[k]?=some o→listed.getD k false=true→∀j∈nM o,listed.getD j false=true) →
  Sat P X ν (PT (fun j=>listed.getD j false) 0 (L.map (·.2)) g) a w→wpAny P .any ops (TP P X Q) fuel listed a w:=by
  intro fuel
  have nq:∀(listed:Array Bool)(ν:Nat→Nm)(a:Act)(w:World),(∀j,j<ops.size→listed.getD j false=true)→Sat P X ν (PT (fun j=>listed.getD j false) 0 (L.map (·.2)) g) a w→TP P X Q .normal a w:=by intro listed ν a w h hs;rw[Xt _ L 0 g (fun k hk=>by simp only[eu];exact h k oM)] at hs;exact⟨_,ν,hk,hs⟩
  induction fuel with
  | zero=>
   intro listed ν a w hls hle hcl hs;have hl:∀j,j<ops.size→listed.getD j false=true:=by
    intro j hj;cases hq:listed.getD j false with
    | true=>rfl
    | false=>have:j∈(bK ops.size).filter fun j=>!listed.getD j false:=(by simp only[gy,List.mem_range];exact⟨hj,by rw[hq];rfl⟩);have hz:left listed ops.size=0:=oM;unfold left at hz;rw[bR hz] at this;simp at this
   refine⟨?_,nq listed ν a w hl hs⟩;apply List.eq_nil_iff_forall_not_mem.2;intro j hj;rw[mem_ready] at hj;obtain⟨h0,o,ho,_⟩:=hj;have hjlt:j<ops.size:=(Array.getElem?_eq_some_iff.1 ho).1;rw[Ql oM,hl j hjlt] at h0;cases h0
  | succ fuel ih=>
   intro listed ν a w hls hle hcl hs;refine⟨fun hr=>nq listed ν a w (fun j hj=>?_) hs,fun i hir=>?_⟩
   ·induction j using Nat.strongRecOn with
    | _ j ihj=>
     cases hq:listed.getD j false with
     | true=>rfl
     | false=>have ho:ops[j]?=some ops[j]:=Array.getElem?_eq_getElem hj;have:j∈Region.ready .any ops listed:=(by rw[mem_ready];refine⟨by rw[Ql oM];exact hq,ops[j],ho,fun e he hb=>?_⟩;have nS:=(KU hi).1 j ops[j] (by simp) e.on (Ii.2 ⟨e,he,hb,rfl⟩);exact ihj e.on nS oM);rw[hr] at this;simp at this
   rw[mem_ready] at hir;obtain⟨h0,o,ho,hd⟩:=hir;have hilt:i<ops.size:=(Array.getElem?_eq_some_iff.1 ho).1;have hni:listed.getD i false=false:=(by rw[←Ql oM];exact h0);have ho':ops.toList[i]?=some o:=(by simpa using ho);have hx:L[i]?=some L[i]:=af oM;have hd':∀j∈nM o,listed.getD j false=true:=(by intro j hj;obtain⟨e,h1,h2,rfl⟩:=Ii.1 hj;exact hd e h1 h2);obtain⟨hag,heq⟩:=aco eO hi g (fun j=>listed.getD j false) hcl ho' hx hd' hni;have ld:=hc.at i o L[i] ho' hx _ hag X ν a w (wpAny P .any ops (TP P X Q) fuel (listed.setIfInBounds i true)) (TP P X Q) hs fun ν' a' w' hs'=>?_;unfold wpOp;simp only[ho];by_cases hw:Region.wanted o (yielded ops a.tmps)=true;simp only[hw,if_true] at ld⊢;exact .inl ld;simp only[hw,if_false] at ld⊢;exact ld;have hset:∀j,(listed.setIfInBounds i true).getD j false=(if j=i then true else listed.getD j false):=(by intro j;by_cases hji:j=i;subst hji;have:j<listed.size:=oM;simp[this];rw[getD_set_ne false (fun e=>hji e.symm)];simp[hji]);refine ih _ ν' a' w' (by simp[hls]) ?_ (fun k o' hk' hSk j hj=>?_) ?_;have:left (listed.setIfInBounds i true) ops.size<left listed ops.size:=(by refine filter_lt (i:=i) (fun j hj=>?_) (by simp[hilt]) (by simp[hni]) (by rw[hset];simp);rw[hset] at hj;by_cases hji:j=i;simp[hji] at hj;simpa[hji] using hj);omega;rw[hset] at hSk⊢;split;rfl;by_cases Zm:k=i;subst Zm;obtain rfl:=Option.some.inj (ho'.symm.trans hk');exact hd' j hj;simp only[Zm,if_false] at hSk;exact hcl k o' hk' hSk j hj;have e2:(fun j=>(listed.setIfInBounds i true).getD j false)=(fun j=>if j=i then true else listed.getD j false):=funext hset;rw[e2];exact hs'.eqv heq
 refine key ops.size (Array.replicate ops.size false) ν a _ (by simp) ?_ (fun k o hk hS=>?_) ?_
 ·unfold left
  have:=List.length_filter_le (fun j=>!(Array.replicate ops.size false).getD j false) (bK ops.size)
  rwa [List.length_range] at this
 ·have:(Array.replicate ops.size false).getD k false=false:=by
   simp only[dp,Array.getElem?_replicate]
   split<;>rfl
  rw[this] at hS;cases hS
 ·rw[Ld _ _ _ (fun k hk=>by
   simp only[dp,Array.getElem?_replicate]
   split<;>rfl)]
  exact hs.drawn _
def WD(P:Program)(ops:Array Oper)(os:List Oper)(pre:List Ky)(g:G)(K:G→Prop):Prop:=
 ∃L,Ew P ops os g L∧indep ops.toList (pre++L.map fun x=>pE x.1 x.2)=true∧K (Kf g L)
theorem afj{P:Program}{ops:Array Oper}{pre:List Ky}{g:G}{K:G→Prop}(hi:indep ops.toList pre=true)(h:K g):WD P ops [] pre g K:=⟨[],.nil g,by simpa using hi,h⟩
theorem aem{P:Program}{ops:Array Oper}{o:Oper}{os:List Oper}{pre:List Ky}{g:G}{K:G→Prop}{R:Rd}{δ:Dl}(h:IJ P ops o g R δ)(hr:WD P ops os (pre++[pE R δ]) (g.app δ) K):WD P ops (o::os) pre g K:=by obtain⟨L,h1,h2,h3⟩:=hr;exact⟨(R,δ)::L,.cons h h1,by simpa using h2,h3⟩
theorem adG{P:Program}{n0:Nat}{g:G}{Q:Ex→G→Prop}(hm:P.follows .mixedOrders=true){id:Nat}{ops:Array Oper}(h:WD P ops ops.toList [] g (Q .normal)):W P n0 (.region id ops true) g Q:=by obtain⟨L,h1,h2,h3⟩:=h;exact agx hm h1 (by simpa using h2) h3
end Go.Eng
