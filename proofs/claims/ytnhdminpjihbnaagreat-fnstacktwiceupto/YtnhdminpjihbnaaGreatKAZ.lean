/-
  The law FnStackTwice answers true, and leaves its arguments as they were, for all arguments that hold together at most 1048576 values and letters.
-/
import Derived.Test.YtnhdminpjihbnaaGreatRows
import Derived.ReadAgain
import Derived.ChangeArms
import Derived.ChangeReads
import Derived.ChangeOld
import Derived.WalkKit
import Derived.ProofKit
import Derived.OpenShut
import Derived.JoinedCond
import Derived.Test.YtnhdminpjihbnaaGreatKAY
set_option linter.unusedVariables false
set_option linter.unusedSimpArgs false
open Classical renaming em→aa
open List renaming getElem?_eq_getElem→ae,map_cons→aJ,mem_map→bq,getElem?_append_left→br,getElem?_append_right→bG,getElem?_eq_none→bL,map_nil→cL
namespace Go.Eng
open Go.RowKit
open Go.Proofs.YtnhdminpjihbnaaGreat
theorem Yf{α:Type}{p:Nat→α→Prop}:∀{n:Nat},(∀i,i<n→∃x,p i x)→∃l:List α,l.length=n∧∀i x,l[i]?=some x→p i x
 | 0,_=>⟨[],rfl,by simp⟩
 | n+1,h=>by
  obtain⟨l,h1,h2⟩:=Yf (n:=n) fun i hi=>h i oM;obtain⟨x,hx⟩:=h n oM;refine⟨l++[x],by simp[h1],fun i y hy=>?_⟩;rcases aa (i<l.length) with hi|hi;rw[br hi] at hy;exact h2 i y hy;rw[bG oM] at hy;have:i-l.length=0:=by rcases Nat.eq_zero_or_pos (i-l.length) with h|h;exact h;rw[bL (by simp;omega)] at hy;cases hy
  rw[this] at hy;obtain rfl:x=y:=by simpa using hy
  have:i=n:=oM;rw[this];exact hx
theorem SO{sz:Nat}:∀(us:List (List Value))(j:Nat)(v:Value),(∀(i:Nat)(u:List Value),us[i]?=some u→u.length=sz)→us.flatten[j]?=some v→∃i r u,us[i]?=some u∧u[r]?=some v∧j=i*sz+r
 | [],j,v,_,h=>by simp at h
 | u::us,j,v,hu,h=>by have h0:u.length=sz:=hu 0 u rfl;rw[List.flatten_cons] at h;rcases aa (j<u.length) with hj|hj;rw[br hj] at h;exact⟨0,j,u,rfl,h,by simp⟩;rw[bG oM] at h;obtain⟨i,r,x,h1,h2,h3⟩:=SO us _ v (fun i x hx=>hu (i+1) x (by simpa using hx)) h;exact⟨i+1,r,x,by simpa using h1,h2,by rw[Nat.add_mul];omega⟩
theorem aag{H:Type}{d:DataW H}{l:List (DataW H)}(h:d∈l):Rows.uptoBulk d≤Rows.uptoBulkAll l:=by
 induction l with
 | nil=>cases h
 | cons x r ih=>simp only[Rows.uptoBulkAll];rcases List.mem_cons.1 h with rfl|e;omega;have:=ih e;omega
theorem acS{H:Type}(d:DataW H):1≤Rows.uptoBulk d:=by
 cases d with
 | lit l=>cases l<;>simp[Rows.uptoBulk]
 | _=>simp[Rows.uptoBulk]
theorem abq{H:Type}(l:List (DataW H)):l.length≤Rows.uptoBulkAll l:=by
 induction l with
 | nil=>simp
 | cons x r ih=>have:=acS x;simp only[Rows.uptoBulkAll,List.length_cons];omega
section
variable{H:Type}(enc:TypeId×Value→H)(E:Env)(w:World)(ok:Nat→Prop)
def Rn{α:Type}(n:Nat)(t:TypeId)(c:α→List D):Prop:=
 ∀m,m≤n→∀(cs:List Value)(d:DataW H)(ps:List MemPlace),DataW.trod enc E.P w 0 (fun _=>true) true m t cs=some (d,ps)→Rows.uptoBulk d≤1048576→∃x:α,∀ν st,aB w ok ν st (fy (c x)) cs
def RnF{α:Type}(n:Nat)(fs:List (Nat×Nat×Nat))(off tot:Nat)(c:α→List D):Prop:=
 ∀m,m≤n→∀(cs:List Value)(xs:List (DataW H×List MemPlace)),cs.length=tot→xs.length=fs.length →
  (∀(i ft fo fz:Nat),fs[i]?=some (ft,fo,fz)→DataW.trod enc E.P w 0 (fun _=>true) true m ft ((cs.drop fo).take fz)=xs[i]?) →
  Rows.uptoBulkAll (xs.map (·.1))≤1048576→∃x:α,∀ν st,aB w ok ν st (fy (c x)) (cs.drop off)
end
section
variable{H:Type}{enc:TypeId×Value→H}{E:Env}{w:World}{ok:Nat→Prop}{n:Nat}{t:TypeId}
theorem abu{α:Type}{c:α→List D}{e:TypeId}(ti ei:TI)(ht:E.ti t=some ti)(mU:ti.ty= .slice e)(he:E.ti e=some ei){r:List α→List (List D)}(hr:∀xs,r xs=xs.map c)
 (dL:∀b,b<w.heap.size→ok b) (h:Rn enc E w ok n e c):Rn enc E w ok n t (fun xs:List α=>[.eP (r xs)]):=by
 intro m hm cs d ps htr hb
 have hu:=(E.ok t ti ht).ty
 rw[mU] at hu
 have hsz:=(E.ok e ei he).cells
 have hpos:=(E.ok e ei he).pos
 have wrap:∀(xs:List α)(v:Value),jn w ok (.eP (r xs)) v→∀ν st,aB w ok ν st (fy [.eP (r xs)]) [v]:=fun xs v h ν st=>by simp only[fy,aJ,cL,aB,aF];exact⟨h,trivial⟩
 rcases DataW.trod_slice hu htr with⟨rfl,_⟩|⟨a,len,cap,elems,rest,k,hk,rfl,hx,_,hl,hmax,fj,hel,_,_⟩
 ·exact⟨[],wrap [] _ (by rw[hr];exact .nil)⟩
 ·obtain⟨rfl,rfl⟩:d= .slice (elems.map (·.1)) (rest.map (·.1))∧_=ps:=by
   simp only[Prod.mk.injEq] at hx
   exact⟨hx.1,hx.2.symm⟩
  simp only[Rows.uptoBulk] at hb
  have hlb:=abq (elems.map (·.1))
  simp only[List.length_map] at hlb
  rcases aa (len=0) with h0|h0
  ·subst h0
   exact⟨[],wrap [] _ (by rw[hr];exact .emp a cap hmax)⟩
  ·have hone:∀i,i<len→∃p:α×List Value,w.cells? 0 (a.add (i*ei.n)) ei.n=some p.2∧∀ν st,aB w ok ν st (fy (c p.1)) p.2:=by
    intro i hi
    have h1:=hel i hi
    have hie:i<elems.length:=oM
    rw[ae hie,hsz] at h1
    obtain⟨cs',h2,h3⟩:=Option.bind_eq_some_iff.1 h1
    have hmem:elems[i].1∈elems.map (·.1):=bq.2 ⟨_,List.getElem_mem hie,rfl⟩
    have:=aag hmem
    obtain⟨x,hx⟩:=h k oM cs' elems[i].1 elems[i].2 h3 oM
    exact⟨(x,cs'),h2,hx⟩
   obtain⟨L,hL1,hL2⟩:=Yf hone
   have hcell:∀i p,L[i]?=some p→p.2.length=ei.n∧∀j,j<ei.n→w.cell? ((a.add (i*ei.n)).add j)=p.2[j]?:=fun i p hp=>(World.cells?_some (hL2 i p hp).1).2
   have hL0:0<L.length:=oM
   obtain⟨b,off,spot⟩:=a
   have hspot:spot=none:=by have h1:=hcell 0 L[0] (ae hL0);have h2:=h1.2 0 hpos;rw[ae oM] at h2;have:=World.cell?_spot h2;simpa[Addr.add] using this
   subst hspot
   have hblk:b<w.heap.size:=by have:=World.cells?_block (hL2 0 L[0] (ae hL0)).1 hpos;simpa[Addr.add] using this
   have qf:∀(i:Nat)(u:List Value),(L.map (·.2))[i]?=some u→∃p,L[i]?=some p∧p.2=u:=fun i u hu=>by simpa using hu
   have hul:∀(i:Nat)(u:List Value),(L.map (·.2))[i]?=some u→u.length=ei.n:=fun i u hu=>by obtain⟨p,h1,h2⟩:=qf i u hu;rw[←h2];exact(hcell i p h1).1
   have hrl:((L.map (·.1)).map c).length=len:=by simp[hL1]
   refine⟨L.map (·.1),wrap _ _ ?_⟩
   have key:=jn.eP (w:=w) (ok:=ok) ((L.map (·.1)).map c) (L.map (·.2)) b off cap ei.n (dL b hblk) hblk (by rw[hrl];exact hl) hmax (by rw[hrl];unfold LB;omega) (by simp) (fun i x hx=>?_) hul (fun j u hj=>?_) (fun i j x u dd v h1 h2 h3 h4=>?_)
   ·rw[hrl,←hr] at key
    exact key
   ·obtain⟨p,h1,h2⟩:∃p,L[i]?=some p∧c p.1=x:=by simpa using hx
    have h3:=((hL2 i p h1).2 (fun _=>⟨Go.undef,[]⟩) (fun _=>none)).length
    rw[←h2]
    rw[(hcell i p h1).1] at h3
    simpa[fy] using h3.symm
   ·obtain⟨i,r,u',h1,h2,rfl⟩:=SO _ j u hul hj
    obtain⟨p,h3,rfl⟩:=qf i u' h1
    have hr':r<ei.n:=by rw[← (hcell i p h3).1];rcases Nat.lt_or_ge r p.2.length with h|h;exact h;rw[bL h] at h2;cases h2
    have:=(hcell i p h3).2 r hr'
    rw[add_lit,add_lit,h2] at this
    rw[Nat.add_assoc] at this
    exact this
   ·obtain⟨p,k1,k2⟩:∃p,L[i]?=some p∧c p.1=x:=by simpa using h1
    obtain⟨p',k3,k4⟩:=qf i u h2
    obtain rfl:p=p':=Option.some.inj (k1.symm.trans k3)
    subst k2 k4
    exact XE ((hL2 i p k1).2 (fun _=>⟨Go.undef,[]⟩) (fun _=>none)) j dd v h3 h4
end
end Go.Eng
namespace Go.Proofs.YtnhdminpjihbnaaGreat
open Go.ChangeShapes Go.WideShapes Go.ChangeAt Go.RowKit Go.Eng Go.Mod
set_option maxRecDepth 100000
def cx0(w:World):Cx:=⟨w,Own (fun _=>⟨Go.undef,[]⟩) (eJ []),fun _=>⟨Go.undef,[]⟩,eJ [],fun _=>False⟩
def ok0(w:World):Nat→Prop:=dg (cx0 w) (fun _=>⟨Go.undef,[]⟩) (eJ [])
theorem af3(w:World):∀b,b<w.heap.size→ok0 w b:=fun b _=>⟨pP _ b,fun h=>h⟩
theorem ake{P:Program}{f:FuncId}{args:List PV}{res:PV}(hC:C P f args [] (gR res []))(w:World)(vs:List Value)(hv:aB w (ok0 w) (fun _=>⟨Go.undef,[]⟩) (eJ []) args vs)(hK:Kt P (cx0 w)) :
 Calls P f ⟨vs⟩ w fun e w'=>∃v ok ν st,e= .returned v∧aF w' ok ν st res v∧Below w.heap.size w w':=by
 have mf:∀k,G.at ⟨args,[]⟩ k=none:=fun _=>rfl
 have hent:Sat P (cx0 w) (cx0 w).ν0 ⟨args,[]⟩ ⟨⟨vs⟩,[]⟩ (cx0 w).w0:=by
  refine⟨by simpa using hv.length,fun t=>?_,fun k e h=>?_,fun k k' e e' b h=>?_,fun b hb=>?_,fun k h=>?_,fun k h=>?_,⟨fun b hb=>?_,hK⟩,uO.refl _ w,rfl⟩;have key:∀(ps:List PV)(us:List Value)(t:Nat),aB w (ok0 w) (fun _=>⟨Go.undef,[]⟩) (eJ []) ps us→aF w (ok0 w) (fun _=>⟨Go.undef,[]⟩) (eJ []) (nth ps t) (us.getD t Go.undef):=by
   intro ps;induction ps with
   | nil=>intro us t _;cases t<;>simp[nth,aF]
   | cons p ps ih=>
    intro us t hr;cases us with
    | nil=>simp[aB] at hr
    | cons u us=>
     simp only[aB] at hr;cases t with
     | zero=>simpa[nth] using hr.1
     | succ t=>simpa[nth] using ih us t hr.2
  have:=key args vs t hv;show aF w (ok0 w) (fun _=>⟨Go.undef,[]⟩) (eJ []) (nth args t) ((⟨vs⟩:Array Value).getD t Go.undef);simpa[Array.getD_eq_getD_getElem?] using this;rw[mf] at h;cases h;rw[mf] at h;cases h;exact(pP _ b hb).elim;rw[mf] at h;cases h;cases k<;>simp[cx0,eJ] at h;exact hb.elim
 refine(hC.2 (cx0 w) vs rfl rfl hent).mono ?_
 rintro e w' ⟨v,r,s,ν',rfl,⟨rfl,rfl⟩,jS⟩
 have h0:=jS.sl 0
 exact⟨v,_,_,_,rfl,h0,⟨jS.C4.os,jS.C4.tape,jS.C4.output,jS.C4.size,fun k hk=>jS.C4.block k hk (pP _ k)⟩⟩
theorem FN{H:Type}{enc:TypeId×Value→H}{P:Program}{w w':World}{sp:Nat→Bool}:∀{ts:List TypeId}{vs:List Value}{ds:List (DataW H)}{ps:List MemPlace},
 DataW.TrodAll enc P w 0 sp true ts vs ds ps→(∀p∈ps,w.sameAt w' p)→DataW.TrodAll enc P w' 0 sp true ts vs ds ps
 | [],[],[],_,h,_=>h
 | _::_,_::_,_::_,_,⟨p,q,⟨n,h1⟩,h2,e⟩,hs=>
   ⟨p,q,⟨n,DataW.trod_carry n _ _ _ h1 (fun x hx=>hs x (by rw[e];exact List.mem_append_left _ hx))⟩,FN h2 (fun x hx=>hs x (by rw[e];exact List.mem_append_right _ hx)),e⟩
theorem ar:Kids Tryz.prog (· < Tryz.prog.types.size):=kids_rows (by kernel_rfl) (by kernel_rfl)
theorem full:∀t e,t<Tryz.prog.types.size→Tryz.prog.underlying t=some (.slice e)→0<Tryz.prog.cellsOf e:=slices_full_of Tryz.prog (by kernel_rfl)
theorem ZW{H:Type}{enc:TypeId×Value→H}{f:Func}{s:ChangeSpec}{apart fresh handsOn again:Bool}{W W':World}{args:Array Value}{ds:List (DataW H)}{before:List MemPlace}{t:TypeId}
 (hW:DataW.Whole enc Tryz.prog f.params.toList s.vars apart W args.toList ds [] before) (hvars:s.vars=[]) (ht:Tryz.prog.underlying t=some .bool) (hr:f.resultTypes = #[t])
 (hs:s.fn H (ds++[]) = { results:=[.lit (.bool true)],args:=ds }) (hB:Below W.heap.size W W') (hp:∀t∈f.params.toList,t<Tryz.prog.types.size) :
 s.post enc Tryz.prog f apart fresh handsOn again W args (.bool true) W':=by
 have pz:=hW.lt
 obtain⟨p,q,hA,hV,rfl,hz,hn⟩:=id hW
 rw[hvars] at hV
 obtain⟨_,rfl⟩:=trodVars_none hV
 simp only[List.append_nil] at pz hz hn hW
 have rO:∀sp:Nat→Bool,(∀x∈p,sp x.block=true)→DataW.TrodAll enc Tryz.prog W' 0 sp true f.params.toList args.toList ds p:=fun sp hsp=>
  (DataW.TrodAll.respare ar full hp (FN hA fun x hx=>hB.same (pz x hx)) hsp)
 have hres:∀(b:Nat)(sp:Nat→Bool)(hd:Bool),DataW.TrodAll enc Tryz.prog W' b sp hd f.resultTypes.toList ((Value.bool true).resultList f.resultTypes.size) [.lit (.bool true)] []:=fun b sp hd=>by rw[hr];exact trodAll_mk1 (shut_bool ht true)
 have hold:∀x∈p,(fun b=>decide (b<W.heap.size)) x.block=true:=fun x hx=>by simpa using pz x hx
 refine⟨ds,[],p,[],p,[],hW,?_,?_,?_,hB.frame _,fun _=>?_⟩
 ·rw[hs];exact hres _ _ _
 ·rw[hs];exact rO _ hold
 ·rw[hs,hvars];exact rfl
 ·refine⟨ok_one hr rfl (okWide_bool_mk ht true),[.lit (.bool true)]++ds,[],([]++p)++[],⟨[]++p,[],trodAll_append (rO _ (fun _ _=>rfl)) (hres _ _ _),by rw[hvars];exact rfl,rfl,?_,?_⟩,?_⟩
  ·intro b off hp'
   have hp':MemPlace.cell b off∈p:=by simpa using hp'
   rw[hB.frozen (p:=⟨b,off,none⟩) (pz _ hp')]
   exact hz b off hp'
  ·intro ha
   simpa using hn ha
  ·intro x hx _
   simpa using hx
def Byt:Type:={i:Int // 0≤i∧i≤255}
def MG(i:Byt):List D:=[.val (.int .u8 i.1)]
def Yn(xs:List Byt):List (List D):=byD (xs.map Subtype.val)
theorem PH:∀(xs:List Byt),Yn xs=xs.map MG
 | []=>rfl
 | x::xs=>by have ih:=PH xs;show MG x::Yn xs=MG x::xs.map MG;rw[ih]
theorem ab3(xs:List Byt):∀x∈xs.map Subtype.val,0≤x∧x≤255:=by intro x hx;obtain⟨y,_,rfl⟩:=bq.1 hx;exact y.2
section
variable{H:Type}{enc:TypeId×Value→H}{E:Env}{w:World}{ok:Nat→Prop}{n:Nat}{t:TypeId}
theorem agh(ti:TI)(ht:E.ti t=some ti)(mU:ti.ty= .int .u8):Rn enc E w ok n t MG:=by
 intro m _ cs d ps h _;have hu:=(E.ok t ti ht).ty;rw[mU] at hu;obtain⟨i,rfl,_,hw⟩:=DataW.trod_int hu h;have hb:0≤i∧i≤255:=by simp only[Lit.wf] at hw;rw[Bool.and_eq_true] at hw;have h1:IntKind.u8.min≤i:=of_decide_eq_true hw.1;have h2:i≤IntKind.u8.max:=of_decide_eq_true hw.2;have e1:IntKind.u8.min=0:=(by decide);have e2:IntKind.u8.max=255:=(by decide);rw[e1] at h1;rw[e2] at h2;exact⟨h1,h2⟩
 refine⟨⟨i,hb⟩,fun ν st=>?_⟩;simp only[MG,fy,aJ,cL,aB,aF];exact⟨.val _ rfl,trivial⟩
end
theorem own:ownKnob Tryz.prog.godebug=none:=by kernel_rfl
theorem adM(H:Type)(enc:TypeId×Value→H)(W:World)(base:Nat)(args:Array Value)(ds gs:List (DataW H))(before:List MemPlace)
 (hval:∀(j:Nat) t v,Tryz.f3.params[j]?=some t→args[j]?=some v→Value.okWide Tryz.prog W .any base t v)
 (hW:DataW.Whole enc Tryz.prog Tryz.f3.params.toList Rows.fnStackTwiceSpec.vars false W args.toList ds gs before) (hk:Rows.uptoSmall H (ds++gs)=true) :
 Calls Tryz.prog 3 args W fun e W'=>∃v,e= .returned v∧Rows.fnStackTwiceSpec.post enc Tryz.prog Tryz.f3 false true false false W args v W':=by
 have hW':=hW
 obtain⟨p,q,hA0,hV,rfl,hfz,hnd⟩:=hW
 have hA:DataW.TrodAll enc Tryz.prog W 0 (fun _=>true) true Tryz.f3.params.toList args.toList ds p:=hA0
 rw[Tryz.params3] at hA hval
 obtain⟨v0,vs0,d0,ds0,p0,q0,rO,rfl,rfl,h0,r0⟩:=trodAll_cons hA
 obtain⟨rfl,rfl,rfl⟩:=trodAll_nil r0
 obtain rfl:args = #[v0]:=by cases args;simp_all
 obtain⟨rfl,rfl⟩:=trodVars_none hV
 have hk:=of_decide_eq_true hk
 simp only[List.cons_append,List.nil_append,Rows.uptoBulkAll] at hk
 obtain⟨a0,l0,k0,rfl⟩:=okWide_slice Tryz.underlying22 (hval 0 _ v0 rfl rfl)
 obtain⟨n0,h0⟩:=h0
 obtain⟨code,e0⟩:=abu (c:=MG) (r:=Yn) (t:=22) _ _ rfl rfl rfl PH (af3 W) (agh (E:=E) _ rfl rfl) n0 (Nat.le_refl _) _ _ _ h0 oM
 have hv:aB W (ok0 W) (fun _=>⟨Go.undef,[]⟩) (eJ []) [lv (Yn code)] [.slice a0 l0 k0]:=by simp only[aB,and_true];have:=e0 (fun _=>⟨Go.undef,[]⟩) (eJ []);simp only[fy,aJ,cL] at this;exact this.1
 refine(ake (HN (code.map Subtype.val) (ab3 code)) W _ hv (afP (by kernel_rfl))).mono fun e W' ⟨v,ok,ν,st,he,hr,hB⟩=>?_
 subst he
 obtain rfl:=iB hr
 exact⟨_,rfl,ZW hW' rfl Tryz.underlying4 (by kernel_rfl) rfl hB (by rw[Tryz.params3];decide)⟩
def arg:Input:=⟨#[],#[.slice none 0 0],[]⟩
set_option maxRecDepth 100000 in
theorem w_v(os:Os):(World.plainHolding Tryz.checked.prog os arg).variablesB Tryz.checked.prog=true:=by kernel_rfl
set_option maxRecDepth 100000 in
theorem w_r(os:Os):((World.plainHolding Tryz.checked.prog os arg).heap.toList.drop Tryz.checked.prog.globals.size).take ((begin Tryz.checked.prog (fun _ _=>0) default).world.heap.size-Tryz.checked.prog.globals.size) =
 (begin Tryz.checked.prog (fun _ _=>0) default).world.heap.toList.drop Tryz.checked.prog.globals.size:=by kernel_rfl
set_option maxRecDepth 100000 in
theorem w_o(os:Os):Input.okWideB Tryz.checked.prog (World.plainHolding Tryz.checked.prog os arg) 3 ⟨#[],arg.args,[]⟩=true:=by kernel_rfl
set_option maxRecDepth 100000 in
theorem w_x(os:Os)(H:Type)(enc:TypeId×Value→H):DataW.whole enc Tryz.checked.prog (World.plainHolding Tryz.checked.prog os arg).memory Tryz.f3.params.toList (Rows.OpenSpec.upto Rows.fnStackTwiceSpec).vars false arg.args.toList 8=some (([.nil],[],[]):List (DataW H)×List (DataW H)×List MemPlace):=by kernel_rfl
set_option maxRecDepth 100000 in
theorem w_s(os:Os)(H:Type)(enc:TypeId×Value→H):(Rows.OpenSpec.upto Rows.fnStackTwiceSpec).bare.sizedB enc Tryz.checked.prog Tryz.f3 false (World.plainHolding Tryz.checked.prog os arg).memory arg.args 8=true:=by kernel_rfl
set_option maxRecDepth 100000 in
theorem wit(os:Os)(H:Type)(enc:TypeId×Value→H):∃(w:World)(tape:Tape)(i:Input),w.os=os∧(w.forCall tape i).Shaped Tryz.checked.prog∧i.vars=[]∧Input.okWide Tryz.checked.prog (w.forCall tape i) .any w.heap.size 3 i ∧
 (Rows.OpenSpec.upto Rows.fnStackTwiceSpec).pre6 enc Tryz.checked.prog Tryz.f3 Rows.fnStackTwiceUptoRow.domain false (w.forCall tape i).memory i.args∧({}:Assume).holds Tryz.checked.prog (lone (Frame.enter Tryz.checked.prog 3 i.args .normal) [] (w.forCall tape i)):=
 OpenSpec.witness (enc:=enc) (C:=Tryz.checked) (s:=Rows.OpenSpec.upto Rows.fnStackTwiceSpec) (k:=Rows.uptoSmall) rfl false arg 8 (w_v os) (w_r os) (w_o os) (w_x os H enc) rfl (by kernel_rfl) (w_s os H enc)
set_option maxRecDepth 100000 in
theorem lifted(os:Os)(started:os.Started)(H:Type)(enc:TypeId×Value→H)(F:Stop.Interp) :
 ReturnsInHanded {} Tryz.checked os 3 .any ((Rows.OpenSpec.upto Rows.fnStackTwiceSpec).pre6 enc Tryz.prog Tryz.f3 Rows.fnStackTwiceUptoRow.domain false) (((Rows.OpenSpec.upto Rows.fnStackTwiceSpec).at F).post enc Tryz.prog Tryz.f3 false true false false):=by
 refine returnsInHanded_of_cond (C:=Tryz.checked) (s:=Rows.OpenSpec.upto Rows.fnStackTwiceSpec) (k:=Rows.uptoSmall) rfl own started (by kernel_rfl) Tryz.func3
  (wit os H enc) ?_
 intro W base args ds gs before hval hW _ hk _
 exact adM H enc W base args ds gs before hval hW hk
theorem exactStackTwice:Rows.FnStackTwiceUptoSaid:=
 OpenClaim.holds_of_cond 3 Tryz.f3 rfl rfl rfl rfl rfl rfl rfl ⟨rfl,rfl,rfl,rfl,rfl⟩ rfl rfl rfl rfl rfl (by kernel_rfl) Tryz.func3 (by kernel_rfl)
  (of_decide_eq_true (by kernel_rfl)) (by unfold Func.isWrapper;first|(rw[if_pos (by decide +kernel)];kernel_rfl)|(rw[if_neg (by decide +kernel)];exact⟨rfl,rfl⟩))
  (fun os started H enc _ F=>lifted os started H enc F)
end Go.Proofs.YtnhdminpjihbnaaGreat
