/-
  The law FnSolveLemma answers true, and leaves its arguments as they were, for all arguments that hold together at most 1048576 values and letters.
-/
import Derived.Test.YtphcpjhkeipggaaGreatRows
import Derived.ReadAgain
import Derived.ChangeArms
import Derived.ChangeReads
import Derived.ChangeOld
import Derived.WalkKit
import Derived.ProofKit
import Derived.OpenShut
import Derived.JoinedCond
import Derived.Test.YtphcpjhkeipggaaGreatKBY
set_option linter.unusedVariables false
set_option linter.unusedSimpArgs false
open Classical renaming em→aa
open List renaming getElem?_eq_getElem→af,map_cons→aV,getElem?_append_left→bF,getElem?_eq_none→bM,mem_map→bN,getElem?_append_right→bO,map_nil→dS
namespace Go.Eng
open Go.RowKit
open Go.Proofs.YtphcpjhkeipggaaGreat
theorem WV{α:Type}{p:Nat→α→Prop}:∀{n:Nat},(∀i,i<n→∃x,p i x)→∃l:List α,l.length=n∧∀i x,l[i]?=some x→p i x
 | 0,_=>⟨[],rfl,by simp⟩
 | n+1,h=>by
  obtain⟨l,h1,h2⟩:=WV (n:=n) fun i hi=>h i oM;obtain⟨x,hx⟩:=h n oM;refine⟨l++[x],by simp[h1],fun i y hy=>?_⟩;rcases aa (i<l.length) with hi|hi;rw[bF hi] at hy;exact h2 i y hy;rw[bO oM] at hy;have:i-l.length=0:=by rcases Nat.eq_zero_or_pos (i-l.length) with h|h;exact h;rw[bM (by simp;omega)] at hy;cases hy
  rw[this] at hy;obtain rfl:x=y:=by simpa using hy
  have:i=n:=oM;rw[this];exact hx
theorem Rz{sz:Nat}:∀(us:List (List Value))(j:Nat)(v:Value),(∀(i:Nat)(u:List Value),us[i]?=some u→u.length=sz)→us.flatten[j]?=some v→∃i r u,us[i]?=some u∧u[r]?=some v∧j=i*sz+r
 | [],j,v,_,h=>by simp at h
 | u::us,j,v,hu,h=>by have h0:u.length=sz:=hu 0 u rfl;rw[List.flatten_cons] at h;rcases aa (j<u.length) with hj|hj;rw[bF hj] at h;exact⟨0,j,u,rfl,h,by simp⟩;rw[bO oM] at h;obtain⟨i,r,x,h1,h2,h3⟩:=Rz us _ v (fun i x hx=>hu (i+1) x (by simpa using hx)) h;exact⟨i+1,r,x,by simpa using h1,h2,by rw[Nat.add_mul];omega⟩
theorem XZ{H:Type}{d:DataW H}{l:List (DataW H)}(h:d∈l):Rows.uptoBulk d≤Rows.uptoBulkAll l:=by
 induction l with
 | nil=>cases h
 | cons x r ih=>simp only[Rows.uptoBulkAll];rcases List.mem_cons.1 h with rfl|e;omega;have:=ih e;omega
theorem ZX{H:Type}(d:DataW H):1≤Rows.uptoBulk d:=by
 cases d with
 | lit l=>cases l<;>simp[Rows.uptoBulk]
 | _=>simp[Rows.uptoBulk]
theorem abI{H:Type}(l:List (DataW H)):l.length≤Rows.uptoBulkAll l:=by
 induction l with
 | nil=>simp
 | cons x r ih=>have:=ZX x;simp only[Rows.uptoBulkAll,List.length_cons];omega
section
variable{H:Type}(enc:TypeId×Value→H)(E:Env)(w:World)(ok:Nat→Prop)
def Rn{α:Type}(n:Nat)(t:TypeId)(c:α→List D):Prop:=
 ∀m,m≤n→∀(cs:List Value)(d:DataW H)(ps:List MemPlace),DataW.trod enc E.P w 0 (fun _=>true) true m t cs=some (d,ps)→Rows.uptoBulk d≤1048576→∃x:α,∀ν st,aH w ok ν st (dm (c x)) cs
def RnF{α:Type}(n:Nat)(fs:List (Nat×Nat×Nat))(off tot:Nat)(c:α→List D):Prop:=
 ∀m,m≤n→∀(cs:List Value)(xs:List (DataW H×List MemPlace)),cs.length=tot→xs.length=fs.length →
  (∀(i ft fo fz:Nat),fs[i]?=some (ft,fo,fz)→DataW.trod enc E.P w 0 (fun _=>true) true m ft ((cs.drop fo).take fz)=xs[i]?) →
  Rows.uptoBulkAll (xs.map (·.1))≤1048576→∃x:α,∀ν st,aH w ok ν st (dm (c x)) (cs.drop off)
end
section
variable{H:Type}{enc:TypeId×Value→H}{E:Env}{w:World}{ok:Nat→Prop}{n:Nat}{t:TypeId}
theorem aaw{α:Type}{c:α→List D}{e:TypeId}(ti ei:TI)(ht:E.ti t=some ti)(mI:ti.ty= .slice e)(he:E.ti e=some ei){r:List α→List (List D)}(hr:∀xs,r xs=xs.map c)
 (fy:∀b,b<w.heap.size→ok b) (h:Rn enc E w ok n e c):Rn enc E w ok n t (fun xs:List α=>[.eC (r xs)]):=by
 intro m hm cs d ps htr hb
 have hu:=(E.ok t ti ht).ty
 rw[mI] at hu
 have hsz:=(E.ok e ei he).cells
 have hpos:=(E.ok e ei he).pos
 have wrap:∀(xs:List α)(v:Value),jD w ok (.eC (r xs)) v→∀ν st,aH w ok ν st (dm [.eC (r xs)]) [v]:=fun xs v h ν st=>by simp only[dm,aV,dS,aH,aJ];exact⟨h,trivial⟩
 rcases DataW.trod_slice hu htr with⟨rfl,_⟩|⟨a,len,cap,elems,rest,k,hk,rfl,hx,_,hl,hmax,eO,hel,_,_⟩
 ·exact⟨[],wrap [] _ (by rw[hr];exact .nil)⟩
 ·obtain⟨rfl,rfl⟩:d= .slice (elems.map (·.1)) (rest.map (·.1))∧_=ps:=by
   simp only[Prod.mk.injEq] at hx
   exact⟨hx.1,hx.2.symm⟩
  simp only[Rows.uptoBulk] at hb
  have hlb:=abI (elems.map (·.1))
  simp only[List.length_map] at hlb
  rcases aa (len=0) with h0|h0
  ·subst h0
   exact⟨[],wrap [] _ (by rw[hr];exact .emp a cap hmax)⟩
  ·have hone:∀i,i<len→∃p:α×List Value,w.cells? 0 (a.add (i*ei.n)) ei.n=some p.2∧∀ν st,aH w ok ν st (dm (c p.1)) p.2:=by
    intro i hi
    have h1:=hel i hi
    have hie:i<elems.length:=oM
    rw[af hie,hsz] at h1
    obtain⟨cs',h2,h3⟩:=Option.bind_eq_some_iff.1 h1
    have hmem:elems[i].1∈elems.map (·.1):=bN.2 ⟨_,List.getElem_mem hie,rfl⟩
    have:=XZ hmem
    obtain⟨x,hx⟩:=h k oM cs' elems[i].1 elems[i].2 h3 oM
    exact⟨(x,cs'),h2,hx⟩
   obtain⟨L,hL1,hL2⟩:=WV hone
   have hcell:∀i p,L[i]?=some p→p.2.length=ei.n∧∀j,j<ei.n→w.cell? ((a.add (i*ei.n)).add j)=p.2[j]?:=fun i p hp=>(World.cells?_some (hL2 i p hp).1).2
   have hL0:0<L.length:=oM
   obtain⟨b,off,spot⟩:=a
   have hspot:spot=none:=by have h1:=hcell 0 L[0] (af hL0);have h2:=h1.2 0 hpos;rw[af oM] at h2;have:=World.cell?_spot h2;simpa[Addr.add] using this
   subst hspot
   have hblk:b<w.heap.size:=by have:=World.cells?_block (hL2 0 L[0] (af hL0)).1 hpos;simpa[Addr.add] using this
   have rA:∀(i:Nat)(u:List Value),(L.map (·.2))[i]?=some u→∃p,L[i]?=some p∧p.2=u:=fun i u hu=>by simpa using hu
   have hul:∀(i:Nat)(u:List Value),(L.map (·.2))[i]?=some u→u.length=ei.n:=fun i u hu=>by obtain⟨p,h1,h2⟩:=rA i u hu;rw[←h2];exact(hcell i p h1).1
   have hrl:((L.map (·.1)).map c).length=len:=by simp[hL1]
   refine⟨L.map (·.1),wrap _ _ ?_⟩
   have key:=jD.eC (w:=w) (ok:=ok) ((L.map (·.1)).map c) (L.map (·.2)) b off cap ei.n (fy b hblk) hblk (by rw[hrl];exact hl) hmax (by rw[hrl];unfold LB;omega) (by simp) (fun i x hx=>?_) hul (fun j u hj=>?_) (fun i j x u dd v h1 h2 h3 h4=>?_)
   ·rw[hrl,←hr] at key
    exact key
   ·obtain⟨p,h1,h2⟩:∃p,L[i]?=some p∧c p.1=x:=by simpa using hx
    have h3:=((hL2 i p h1).2 (fun _=>⟨Go.undef,[]⟩) (fun _=>none)).length
    rw[←h2]
    rw[(hcell i p h1).1] at h3
    simpa[dm] using h3.symm
   ·obtain⟨i,r,u',h1,h2,rfl⟩:=Rz _ j u hul hj
    obtain⟨p,h3,rfl⟩:=rA i u' h1
    have hr':r<ei.n:=by rw[← (hcell i p h3).1];rcases Nat.lt_or_ge r p.2.length with h|h;exact h;rw[bM h] at h2;cases h2
    have:=(hcell i p h3).2 r hr'
    rw[add_lit,add_lit,h2] at this
    rw[Nat.add_assoc] at this
    exact this
   ·obtain⟨p,k1,k2⟩:∃p,L[i]?=some p∧c p.1=x:=by simpa using h1
    obtain⟨p',k3,k4⟩:=rA i u h2
    obtain rfl:p=p':=Option.some.inj (k1.symm.trans k3)
    subst k2 k4
    exact UP ((hL2 i p k1).2 (fun _=>⟨Go.undef,[]⟩) (fun _=>none)) j dd v h3 h4
end
end Go.Eng
namespace Go.Proofs.YtphcpjhkeipggaaGreat
open Go.ChangeShapes Go.WideShapes Go.ChangeAt Go.RowKit Go.Eng Go.Mod
set_option maxRecDepth 100000
def cx0(w:World):Cx:=⟨w,Own (fun _=>⟨Go.undef,[]⟩) (dV []),fun _=>⟨Go.undef,[]⟩,dV [],fun _=>False⟩
def ok0(w:World):Nat→Prop:=dk (cx0 w) (fun _=>⟨Go.undef,[]⟩) (dV [])
theorem aey(w:World):∀b,b<w.heap.size→ok0 w b:=fun b _=>⟨kX _ b,fun h=>h⟩
theorem ahS{P:Program}{f:FuncId}{args:List PV}{res:PV}(hC:C P f args [] (jF res []))(w:World)(vs:List Value)(hv:aH w (ok0 w) (fun _=>⟨Go.undef,[]⟩) (dV []) args vs)(hK:Kt P (cx0 w)) :
 Calls P f ⟨vs⟩ w fun e w'=>∃v ok ν st,e= .returned v∧aJ w' ok ν st res v∧Below w.heap.size w w':=by
 have np:∀k,G.at ⟨args,[]⟩ k=none:=fun _=>rfl
 have hent:Sat P (cx0 w) (cx0 w).ν0 ⟨args,[]⟩ ⟨⟨vs⟩,[]⟩ (cx0 w).w0:=by
  refine⟨by simpa using hv.length,fun t=>?_,fun k e h=>?_,fun k k' e e' b h=>?_,fun b hb=>?_,fun k h=>?_,fun k h=>?_,⟨fun b hb=>?_,hK⟩,vg.refl _ w,rfl⟩;have key:∀(ps:List PV)(us:List Value)(t:Nat),aH w (ok0 w) (fun _=>⟨Go.undef,[]⟩) (dV []) ps us→aJ w (ok0 w) (fun _=>⟨Go.undef,[]⟩) (dV []) (nth ps t) (us.getD t Go.undef):=by
   intro ps;induction ps with
   | nil=>intro us t _;cases t<;>simp[nth,aJ]
   | cons p ps ih=>
    intro us t hr;cases us with
    | nil=>simp[aH] at hr
    | cons u us=>
     simp only[aH] at hr;cases t with
     | zero=>simpa[nth] using hr.1
     | succ t=>simpa[nth] using ih us t hr.2
  have:=key args vs t hv;show aJ w (ok0 w) (fun _=>⟨Go.undef,[]⟩) (dV []) (nth args t) ((⟨vs⟩:Array Value).getD t Go.undef);simpa[Array.getD_eq_getD_getElem?] using this;rw[np] at h;cases h;rw[np] at h;cases h;exact(kX _ b hb).elim;rw[np] at h;cases h;cases k<;>simp[cx0,dV] at h;exact hb.elim
 refine(hC.2 (cx0 w) vs rfl rfl hent).mono ?_
 rintro e w' ⟨v,r,s,ν',rfl,⟨rfl,rfl⟩,je⟩
 have h0:=je.sl 0
 exact⟨v,_,_,_,rfl,h0,⟨je.Da.os,je.Da.tape,je.Da.output,je.Da.size,fun k hk=>je.Da.block k hk (kX _ k)⟩⟩
theorem FJ{H:Type}{enc:TypeId×Value→H}{P:Program}{w w':World}{sp:Nat→Bool}:∀{ts:List TypeId}{vs:List Value}{ds:List (DataW H)}{ps:List MemPlace},
 DataW.TrodAll enc P w 0 sp true ts vs ds ps→(∀p∈ps,w.sameAt w' p)→DataW.TrodAll enc P w' 0 sp true ts vs ds ps
 | [],[],[],_,h,_=>h
 | _::_,_::_,_::_,_,⟨p,q,⟨n,h1⟩,h2,e⟩,hs=>
   ⟨p,q,⟨n,DataW.trod_carry n _ _ _ h1 (fun x hx=>hs x (by rw[e];exact List.mem_append_left _ hx))⟩,FJ h2 (fun x hx=>hs x (by rw[e];exact List.mem_append_right _ hx)),e⟩
theorem ar:Kids Tryz.prog (· < Tryz.prog.types.size):=kids_rows (by kernel_rfl) (by kernel_rfl)
theorem full:∀t e,t<Tryz.prog.types.size→Tryz.prog.underlying t=some (.slice e)→0<Tryz.prog.cellsOf e:=slices_full_of Tryz.prog (by kernel_rfl)
theorem XQ{H:Type}{enc:TypeId×Value→H}{f:Func}{s:ChangeSpec}{apart fresh handsOn again:Bool}{W W':World}{args:Array Value}{ds:List (DataW H)}{before:List MemPlace}{t:TypeId}
 (hW:DataW.Whole enc Tryz.prog f.params.toList s.vars apart W args.toList ds [] before) (hvars:s.vars=[]) (ht:Tryz.prog.underlying t=some .bool) (hr:f.resultTypes = #[t])
 (hs:s.fn H (ds++[]) = { results:=[.lit (.bool true)],args:=ds }) (hB:Below W.heap.size W W') (hp:∀t∈f.params.toList,t<Tryz.prog.types.size) :
 s.post enc Tryz.prog f apart fresh handsOn again W args (.bool true) W':=by
 have nS:=hW.lt
 obtain⟨p,q,hA,hV,rfl,hz,hn⟩:=id hW
 rw[hvars] at hV
 obtain⟨_,rfl⟩:=trodVars_none hV
 simp only[List.append_nil] at nS hz hn hW
 have ru:∀sp:Nat→Bool,(∀x∈p,sp x.block=true)→DataW.TrodAll enc Tryz.prog W' 0 sp true f.params.toList args.toList ds p:=fun sp hsp=>
  (DataW.TrodAll.respare ar full hp (FJ hA fun x hx=>hB.same (nS x hx)) hsp)
 have hres:∀(b:Nat)(sp:Nat→Bool)(hd:Bool),DataW.TrodAll enc Tryz.prog W' b sp hd f.resultTypes.toList ((Value.bool true).resultList f.resultTypes.size) [.lit (.bool true)] []:=fun b sp hd=>by rw[hr];exact trodAll_mk1 (shut_bool ht true)
 have hold:∀x∈p,(fun b=>decide (b<W.heap.size)) x.block=true:=fun x hx=>by simpa using nS x hx
 refine⟨ds,[],p,[],p,[],hW,?_,?_,?_,hB.frame _,fun _=>?_⟩
 ·rw[hs];exact hres _ _ _
 ·rw[hs];exact ru _ hold
 ·rw[hs,hvars];exact rfl
 ·refine⟨ok_one hr rfl (okWide_bool_mk ht true),[.lit (.bool true)]++ds,[],([]++p)++[],⟨[]++p,[],trodAll_append (ru _ (fun _ _=>rfl)) (hres _ _ _),by rw[hvars];exact rfl,rfl,?_,?_⟩,?_⟩
  ·intro b off hp'
   have hp':MemPlace.cell b off∈p:=by simpa using hp'
   rw[hB.frozen (p:=⟨b,off,none⟩) (nS _ hp')]
   exact hz b off hp'
  ·intro ha
   simpa using hn ha
  ·intro x hx _
   simpa using hx
def Byt:Type:={i:Int // 0≤i∧i≤255}
def Kx(i:Byt):List D:=[.val (.int .u8 i.1)]
def WJ(xs:List Byt):List (List D):=Zn (xs.map Subtype.val)
theorem OX:∀(xs:List Byt),WJ xs=xs.map Kx
 | []=>rfl
 | x::xs=>by have ih:=OX xs;show Kx x::WJ xs=Kx x::xs.map Kx;rw[ih]
theorem abf(xs:List Byt):∀x∈xs.map Subtype.val,0≤x∧x≤255:=by intro x hx;obtain⟨y,_,rfl⟩:=bN.1 hx;exact y.2
section
variable{H:Type}{enc:TypeId×Value→H}{E:Env}{w:World}{ok:Nat→Prop}{n:Nat}{t:TypeId}
theorem ac4(ti:TI)(ht:E.ti t=some ti)(mI:ti.ty= .int .u8):Rn enc E w ok n t Kx:=by
 intro m _ cs d ps h _;have hu:=(E.ok t ti ht).ty;rw[mI] at hu;obtain⟨i,rfl,_,hw⟩:=DataW.trod_int hu h;have hb:0≤i∧i≤255:=by simp only[Lit.wf] at hw;rw[Bool.and_eq_true] at hw;have h1:IntKind.u8.min≤i:=of_decide_eq_true hw.1;have h2:i≤IntKind.u8.max:=of_decide_eq_true hw.2;have e1:IntKind.u8.min=0:=(by decide);have e2:IntKind.u8.max=255:=(by decide);rw[e1] at h1;rw[e2] at h2;exact⟨h1,h2⟩
 refine⟨⟨i,hb⟩,fun ν st=>?_⟩;simp only[Kx,dm,aV,dS,aH,aJ];exact⟨.val _ rfl,trivial⟩
end
theorem own:ownKnob Tryz.prog.godebug=none:=by kernel_rfl
theorem aab(H:Type)(enc:TypeId×Value→H)(W:World)(base:Nat)(args:Array Value)(ds gs:List (DataW H))(before:List MemPlace)
 (hval:∀(j:Nat) t v,Tryz.f3.params[j]?=some t→args[j]?=some v→Value.okWide Tryz.prog W .any base t v)
 (hW:DataW.Whole enc Tryz.prog Tryz.f3.params.toList Rows.fnSolveLemmaSpec.vars false W args.toList ds gs before) (hk:Rows.uptoSmall H (ds++gs)=true) :
 Calls Tryz.prog 3 args W fun e W'=>∃v,e= .returned v∧Rows.fnSolveLemmaSpec.post enc Tryz.prog Tryz.f3 false true false false W args v W':=by
 have hW':=hW
 obtain⟨p,q,hA0,hV,rfl,hfz,hnd⟩:=hW
 have hA:DataW.TrodAll enc Tryz.prog W 0 (fun _=>true) true Tryz.f3.params.toList args.toList ds p:=hA0
 rw[Tryz.params3] at hA hval
 obtain⟨v0,vs0,d0,ds0,p0,q0,ru,rfl,rfl,h0,r0⟩:=trodAll_cons hA
 obtain⟨rfl,rfl,rfl⟩:=trodAll_nil r0
 obtain rfl:args = #[v0]:=by cases args;simp_all
 obtain⟨rfl,rfl⟩:=trodVars_none hV
 have hk:=of_decide_eq_true hk
 simp only[List.cons_append,List.nil_append,Rows.uptoBulkAll] at hk
 obtain⟨a0,l0,k0,rfl⟩:=okWide_slice Tryz.underlying22 (hval 0 _ v0 rfl rfl)
 obtain⟨n0,h0⟩:=h0
 obtain⟨code,e0⟩:=aaw (c:=Kx) (r:=WJ) (t:=22) _ _ rfl rfl rfl OX (aey W) (ac4 (E:=E) _ rfl rfl) n0 (Nat.le_refl _) _ _ _ h0 oM
 have hv:aH W (ok0 W) (fun _=>⟨Go.undef,[]⟩) (dV []) [lv (WJ code)] [.slice a0 l0 k0]:=by simp only[aH,and_true];have:=e0 (fun _=>⟨Go.undef,[]⟩) (dV []);simp only[dm,aV,dS] at this;exact this.1
 refine(ahS (Gc (code.map Subtype.val) (abf code)) W _ hv (aej (by kernel_rfl))).mono fun e W' ⟨v,ok,ν,st,he,hr,hB⟩=>?_
 subst he
 obtain rfl:=ig hr
 exact⟨_,rfl,XQ hW' rfl Tryz.underlying4 (by kernel_rfl) rfl hB (by rw[Tryz.params3];decide)⟩
def arg:Input:=⟨#[],#[.slice none 0 0],[]⟩
set_option maxRecDepth 100000 in
theorem w_v(os:Os):(World.plainHolding Tryz.checked.prog os arg).variablesB Tryz.checked.prog=true:=by kernel_rfl
set_option maxRecDepth 100000 in
theorem w_r(os:Os):((World.plainHolding Tryz.checked.prog os arg).heap.toList.drop Tryz.checked.prog.globals.size).take ((begin Tryz.checked.prog (fun _ _=>0) default).world.heap.size-Tryz.checked.prog.globals.size) =
 (begin Tryz.checked.prog (fun _ _=>0) default).world.heap.toList.drop Tryz.checked.prog.globals.size:=by kernel_rfl
set_option maxRecDepth 100000 in
theorem w_o(os:Os):Input.okWideB Tryz.checked.prog (World.plainHolding Tryz.checked.prog os arg) 3 ⟨#[],arg.args,[]⟩=true:=by kernel_rfl
set_option maxRecDepth 100000 in
theorem w_x(os:Os)(H:Type)(enc:TypeId×Value→H):DataW.whole enc Tryz.checked.prog (World.plainHolding Tryz.checked.prog os arg).memory Tryz.f3.params.toList (Rows.OpenSpec.upto Rows.fnSolveLemmaSpec).vars false arg.args.toList 8=some (([.nil],[],[]):List (DataW H)×List (DataW H)×List MemPlace):=by kernel_rfl
set_option maxRecDepth 100000 in
theorem w_s(os:Os)(H:Type)(enc:TypeId×Value→H):(Rows.OpenSpec.upto Rows.fnSolveLemmaSpec).bare.sizedB enc Tryz.checked.prog Tryz.f3 false (World.plainHolding Tryz.checked.prog os arg).memory arg.args 8=true:=by kernel_rfl
set_option maxRecDepth 100000 in
theorem wit(os:Os)(H:Type)(enc:TypeId×Value→H):∃(w:World)(tape:Tape)(i:Input),w.os=os∧(w.forCall tape i).Shaped Tryz.checked.prog∧i.vars=[]∧Input.okWide Tryz.checked.prog (w.forCall tape i) .any w.heap.size 3 i ∧
 (Rows.OpenSpec.upto Rows.fnSolveLemmaSpec).pre6 enc Tryz.checked.prog Tryz.f3 Rows.fnSolveLemmaUptoRow.domain false (w.forCall tape i).memory i.args∧({}:Assume).holds Tryz.checked.prog (lone (Frame.enter Tryz.checked.prog 3 i.args .normal) [] (w.forCall tape i)):=
 OpenSpec.witness (enc:=enc) (C:=Tryz.checked) (s:=Rows.OpenSpec.upto Rows.fnSolveLemmaSpec) (k:=Rows.uptoSmall) rfl false arg 8 (w_v os) (w_r os) (w_o os) (w_x os H enc) rfl (by kernel_rfl) (w_s os H enc)
set_option maxRecDepth 100000 in
theorem lifted(os:Os)(started:os.Started)(H:Type)(enc:TypeId×Value→H)(F:Stop.Interp) :
 ReturnsInHanded {} Tryz.checked os 3 .any ((Rows.OpenSpec.upto Rows.fnSolveLemmaSpec).pre6 enc Tryz.prog Tryz.f3 Rows.fnSolveLemmaUptoRow.domain false) (((Rows.OpenSpec.upto Rows.fnSolveLemmaSpec).at F).post enc Tryz.prog Tryz.f3 false true false false):=by
 refine returnsInHanded_of_cond (C:=Tryz.checked) (s:=Rows.OpenSpec.upto Rows.fnSolveLemmaSpec) (k:=Rows.uptoSmall) rfl own started (by kernel_rfl) Tryz.func3
  (wit os H enc) ?_
 intro W base args ds gs before hval hW _ hk _
 exact aab H enc W base args ds gs before hval hW hk
theorem cl:Tryz.prog.closure 3=[3,6,16,17,46,91,22,21,167,92,168,264,265,325,66,65,132,213,63,130,131,173,267,326,268,327,328,290,313,214,291,133,292,220,297,215,98,155,247,93,169,94,170,171,266,172,95,47,96,174,97,48,20,19,18,7,23,49,99,175,176,189,270,182,78,237,269,329,365,377,380,378,381,366,367,177,180,36,72,35,50,100,179,178,101,125,181,60,24,51,102,183,184,129,185,53,52,103,186,192,271,86,188,109,187,191,56,105,106,190,204,284,57,108,107,25,54,55,104,27,59,26,58,110,111,117,193,194,272,330,112,122,206,285,337,286,114,202,203,275,332,113,195,273,331,274,196,197,276,321,316,198,277,333,147,240,199,200,278,262,324,254,335,281,334,279,280,201,282,255,322,336,283,263,115,116,119,118,121,120,205,123,124,207,209,208,287,126,127,210,211,163,258,323,243,319,259,260,257,212,288,289,338,368,128,44,85,162,256,87,89,164,261,28,62,61,8,29,64,30,67,68,32,31,69,70,134,216,217,293,339,294,340,135,218,136,219,295,341,296,137,221,298,299,342,222,138,223,224,225,300,343,344,226,301,345,227,302,346,228,303,347,353,351,371,370,349,369,311,304,348,229,305,306,350,139,230,232,231,141,140,142,143,233,234,307,308,144,235,236,312,354,314,309,352,310,33,9,10,34,71,37,11,38,73,145,146,238,315,239,148]:=by kernel_rfl
theorem ahR:(Rows.fnSolveLemmaUptoRow.inPlace == Tryz.prog.inPlace 3)=true:=by
 unfold Program.inPlace
 rw[cl]
 kernel_rfl
theorem agR:Tryz.prog.unfollowed 3=true:=by
 unfold Program.unfollowed
 rw[cl]
 kernel_rfl
theorem ah7:(Rows.fnSolveLemmaUptoRow.recurses == Tryz.prog.recurses 3)=true:=by unfold Program.recurses;rw[agR];rfl
theorem ahL:(Rows.fnSolveLemmaUptoRow.named == Tryz.prog.varsNamed 3)=true:=by
 unfold Program.varsNamed
 rw[cl]
 kernel_rfl
theorem ab7{a b:Bool}(h:a=true)(k:b=true):(a&&b)=true:=by rw[h,k];rfl
theorem facts:joinedFacts Tryz.prog 3 Tryz.f3 (Rows.OpenSpec.upto Rows.fnSolveLemmaSpec).bare Rows.fnSolveLemmaUptoRow=true:=by
 unfold joinedFacts
 iterate 19 refine ab7 ?_ (by kernel_rfl)
 refine ab7 (ab7 (ab7 (ab7 ?_ ahR) (by rw[agR];rfl)) ah7) ahL
 kernel_rfl
theorem exactSolveLemma:Rows.FnSolveLemmaUptoSaid:=
 OpenClaim.holds_of_cond 3 Tryz.f3 rfl rfl rfl rfl rfl rfl rfl ⟨rfl,rfl,rfl,rfl,rfl⟩ rfl rfl rfl rfl rfl (by kernel_rfl) Tryz.func3 facts
  (of_decide_eq_true (by kernel_rfl)) (by unfold Func.isWrapper;first|(rw[if_pos (by decide +kernel)];kernel_rfl)|(rw[if_neg (by decide +kernel)];exact⟨rfl,rfl⟩))
  (fun os started H enc _ F=>lifted os started H enc F)
end Go.Proofs.YtphcpjhkeipggaaGreat
