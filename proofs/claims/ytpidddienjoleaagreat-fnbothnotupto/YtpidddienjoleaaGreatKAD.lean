/-
  The symbolic layer, twenty-third text: from a function's code to its contract; what the working out may unfold. The symbolic layer, twenty-fourth text: what may be taken for granted of data that lie in memory. The symbolic layer, twenty-fifth text: calls of functions of data, whatever the shape of the outcome; short names of values. The symbolic layer, twenty-sixth text: loops whose state is told by one, two or three things that change. The symbolic layer, twenty-seventh text: a contract over data serves a slice that grows, if it is given up for that. The symbolic layer, twenty-eighth text: the test of a drawn region, by bits. The symbolic layer, twenty-ninth text: a contract over data serves arguments in which a slice that grows stands somewhere, if it is given up for that. The symbolic layer, thirtieth text: slices compared with nil. The symbolic layer, thirty-first text: the tail of a slice of the call's own is cleared; its head is given out as data; code taken in parts. The symbolic layer, thirty-second text: pairs of whole numbers compared; the end of a walk, told at once.
-/
import Derived.Test.YtpidddienjoleaaGreatKAC
import Derived.Laws.StructEq
set_option linter.unusedVariables false
set_option linter.unusedSimpArgs false
namespace Go.Eng
open Go.RowKit
def pad:List PV → Nat → List PV
 | [],0=>[]
 | [],n + 1=>.undef :: pad [] n
 | l,0=>l
 | a :: as,n + 1=>a :: pad as n
theorem pad_eq:∀ (l:List PV) (n:Nat),pad l n = l ++ List.replicate (n - l.length) .undef
 | [],0=>rfl
 | [],n + 1=>by simp [pad,pad_eq [] n,List.replicate_succ]
 | a :: as,0=>by simp [pad]
 | a :: as,n + 1=>by simp [pad,pad_eq as n]
def FinD (E:Env) (rs:List ResultVar) (n0:Nat) (R:PV → List (Option En) → Prop) (g:G):Prop:=
 ∃ ps m q st',ress E g rs = some ps ∧ Wk n0 m ⟨[oneRes ps],g.st⟩ ⟨[q],st'⟩ ∧ R q st'
theorem FinD.sat {E:Env} {rs:List ResultVar} {n0:Nat} {R:PV → List (Option En) → Prop} {g:G} (h:FinD E rs n0 R g) {X:Cx} {ν:Nat → Nm} {a:Act} {w:World} (hp:Par X n0) (hs:Sat E.P X ν g a w) {fn:Func} (hfn:fn.results.toList = rs) :
 ∃ v res st' ν',(results fn a.tmps).run E.P w = .ok v w ∧ R res st' ∧ sat1 E.P X ν' res st' v w:=by
 obtain ⟨ps,m,q,st',h1,h2,h3⟩:=h
 obtain ⟨v,hr,hv⟩:=results_run hs (fn:=fn) (by rw [hfn]; exact h1)
 have hs1:Sat E.P X ν ⟨[oneRes ps],g.st⟩ ⟨#[v],[]⟩ w:=by
  refine ⟨rfl,fun t=>?_,hs.en,hs.inj,hs.base,hs.nu,hs.par,hs.zlt,hs.chg,rfl⟩
  cases t with
  | zero=>exact hv
  | succ t=>simp [nth,RepPV]
 obtain ⟨ν',hs2⟩:=weak_of h2 X ν _ _ hp hs1
 exact ⟨v,q,st',ν',hr,h3,hs2⟩
theorem fin1 {E:Env} {rs:List ResultVar} {g:G} {ps:List PV} {q:PV} (h1:ress E g rs = some ps) (h2:wk ⟨[oneRes ps],g.st⟩ [] (oneRes ps) q):FinD E rs 0 (Eq2 q []) g:=
 ⟨ps,[],q,[],h1,⟨by simp only [wks]; exact ⟨h2,trivial⟩,by simp [wkEs],rfl,rfl⟩,rfl,rfl⟩
theorem pvs_nil:pvs [] = []:=rfl
theorem pvs_cons (x:D) (xs:List D):pvs (x :: xs) = .d x :: pvs xs:=rfl
def getC (t:Nat):List (Nat × PV) → PV → PV
 | [],p=>p
 | (d,v) :: r,p=>match Nat.beq t d with
   | true=>v
   | false=>getC t r p
def mkS (n:Nat) (p:PV) (ch:List (Nat × PV)):List PV:=(List.range n).map fun t=>getC t ch p
theorem ble_iff {a b:Nat}:Nat.ble b a = false ↔ a < b:=by
 cases h:Nat.ble b a
 ·simp only [true_iff]
  have h':¬ b ≤ a:=fun hl=>by rw [Nat.ble_eq_true_of_le hl] at h; cases h
  omega
 ·have:=Nat.le_of_ble_eq_true h
  simp
  omega
theorem nth_getD:∀ (l:List PV) (t:Nat),nth l t = l.getD t .any
 | [],t=>by cases t <;> rfl
 | _ :: _,0=>rfl
 | _ :: l,t + 1=>by simp only [nth,nth_getD l t]; rfl
theorem mkS_len (n:Nat) (p:PV) (ch:List (Nat × PV)):(mkS n p ch).length = n:=by simp [mkS]
theorem nth_mkS (n:Nat) (p:PV) (ch:List (Nat × PV)) (t:Nat):nth (mkS n p ch) t = match Nat.ble n t with | false=>getC t ch p | true=>.any:=by
 rw [nth_getD]
 cases h:Nat.ble n t
 ·have h':t < n:=ble_iff.1 h
  simp [mkS,List.getD,h']
 ·have h':¬ t < n:=fun hl=>by rw [ble_iff.2 hl] at h; cases h
  simp [mkS,List.getD,h']
theorem nth_ext {l l':List PV} (hl:l.length = l'.length) (h:∀ t,nth l t = nth l' t):l = l':=by
 refine List.ext_getElem hl fun t h1 h2=>?_
 have:=h t
 rw [nth_getD,nth_getD] at this
 simpa [List.getD,h1,h2] using this
theorem setN_mkS (n:Nat) (p:PV) (ch:List (Nat × PV)) (d:Nat) (v:PV):setN (mkS n p ch) d v = mkS n p ((d,v) :: ch):=by
 refine nth_ext (by rw [length_setN,mkS_len,mkS_len]) fun t=>?_
 rw [nth_setN,mkS_len,nth_mkS,nth_mkS]
 by_cases h:t = d
 ·subst h
  by_cases hn:t < n
  ·rw [if_pos ⟨rfl,hn⟩,ble_iff.2 hn]
   simp only [getC,Nat.beq_refl]
  ·rw [if_neg (fun hc=>hn hc.2)]
   have:Nat.ble n t = true:=by
    cases hb:Nat.ble n t
    ·exact (hn (ble_iff.1 hb)).elim
    ·rfl
   rw [this]
 ·rw [if_neg (fun hc=>h hc.1)]
  have:Nat.beq t d = false:=by
   cases hb:Nat.beq t d
   ·rfl
   ·exact (h (Nat.eq_of_beq_eq_true hb)).elim
  simp only [getC,this]
def ixs:Nat → List PV → List (Nat × PV)
 | _,[]=>[]
 | i,a :: l=>(i,a) :: ixs (i + 1) l
theorem getC_ixs:∀ (l:List PV) (i t:Nat) (p:PV),getC (i + t) (ixs i l) p = l.getD t p
 | [],i,t,p=>by simp [ixs,getC]
 | a :: l,i,0,p=>by simp [ixs,getC]
 | a :: l,i,t + 1,p=>by
   have:Nat.beq (i + (t + 1)) i = false:=by
    cases hb:Nat.beq (i + (t + 1)) i
    ·rfl
    ·have:=Nat.eq_of_beq_eq_true hb; omega
   simp only [ixs,getC,this]
   have:=getC_ixs l (i + 1) t p
   rw [show i + 1 + t = i + (t + 1) by omega] at this
   rw [this]
   rfl
theorem pad_mkS {l:List PV} {n:Nat} (h:l.length ≤ n):pad l n = mkS n .undef (ixs 0 l):=by
 rw [pad_eq]
 refine nth_ext (by rw [mkS_len]; simp; omega) fun t=>?_
 rw [nth_mkS,nth_getD]
 have:=getC_ixs l 0 t .undef
 rw [Nat.zero_add] at this
 rw [this]
 cases hb:Nat.ble n t
 rotate_left
 ·have h':¬ t < n:=fun hl=>by rw [ble_iff.2 hl] at hb; cases hb
  have h1:(l ++ List.replicate (n - l.length) PV.undef).length ≤ t:=by simp; omega
  simp only [List.getD,List.getElem?_eq_none h1,Option.getD_none]
 ·have h':t < n:=ble_iff.1 hb
  simp only [List.getD]
  by_cases hl:t < l.length
  ·rw [List.getElem?_append_left hl,List.getElem?_eq_getElem hl]; rfl
  ·rw [List.getElem?_append_right (by omega),List.getElem?_replicate,if_pos (by omega),List.getElem?_eq_none (by omega)]
   rfl
def wkC (g:G) (m:List (Option Nat)) (ch:List (Nat × PV)) (p:PV):List (Nat × PV) → Prop
 | []=>True
 | (t,q) :: r=>wk g m (getC t ch p) q ∧ wkC g m ch p r
theorem wk_any {g:G} {m:List (Option Nat)} (p:PV):wk g m p .any:=by cases p <;> simp [wk]
theorem wkC_at {g:G} {m:List (Option Nat)} {ch:List (Nat × PV)} {p:PV}:∀ {ch':List (Nat × PV)},wkC g m ch p ch' → ∀ t,wk g m (getC t ch p) (getC t ch' .any)
 | [],_,t=>by simp only [getC]; exact wk_any _
 | (d,q) :: r,h,t=>by
   simp only [wkC] at h
   simp only [getC]
   cases hb:Nat.beq t d
   ·exact wkC_at h.2 t
   ·have:=Nat.eq_of_beq_eq_true hb
    subst this
    exact h.1
theorem wks_map {g:G} {m:List (Option Nat)} {f f':Nat → PV} (h:∀ t,wk g m (f t) (f' t)):∀ (l:List Nat),wks g m (l.map f) (l.map f')
 | []=>by simp only [List.map_nil,wks]
 | a :: l=>by simp only [List.map_cons,wks]; exact ⟨h a,wks_map h l⟩
theorem weakS {P:Program} {n0 n:Nat} (m:List (Option Nat)) {p:PV} {ch ch':List (Nat × PV)} {st st':List (Option En)} (h1:wkC ⟨mkS n p ch,st⟩ m ch p ch') (h2:wkEs ⟨mkS n p ch,st⟩ m m st') (h3:nodL m st' = true) (h4:keeps n0 0 m = true):Weak P n0 ⟨mkS n p ch,st⟩ ⟨mkS n .any ch',st'⟩:=
 weak_of ⟨wks_map (wkC_at h1) _,h2,h3,h4⟩
attribute [go_sem] eqN lenD nth_mkS setN_mkS getC wkC ixs ent setE lenE lenP tk dr over splc fget pget pls evp ev2 ix2 sl2 len2 qget fillQ iop cop sop isCmp ikEq bop leN
attribute [go_sem] stpPick stpAlloc stpBox stpLoad stpFld stpField stpIdxA stpIdx stpUn stpConv stpBuild stpLit stpMake obI stpCut stpNil stpExt stpLen appRows stpApp stpStore slss evs stpFn stpCall stpOp stp
theorem G_app (sl:List PV) (st:List (Option En)) (dst:Option (Nat × PV)) (up:List (Nat × En)):(G.mk sl st).app ⟨dst,up⟩ = ⟨setD sl dst,upE st up⟩:=rfl
theorem setD_none (sl:List PV):setD sl none = sl:=rfl
theorem setD_some (sl:List PV) (d:Nat) (p:PV):setD sl (some (d,p)) = setN sl d p:=rfl
theorem G_ev_tmp (sl:List PV) (st:List (Option En)) (t:Nat):(G.mk sl st).ev (.tmp t) = nth sl t:=rfl
theorem G_ev_const (sl:List PV) (st:List (Option En)) (v:Value):(G.mk sl st).ev (.const v) = cpv v:=rfl
theorem G_ev_func (sl:List PV) (st:List (Option En)) (f:Nat):(G.mk sl st).ev (.func f) = .fn f []:=rfl
theorem G_at (sl:List PV) (st:List (Option En)) (k:Nat):(G.mk sl st).at k = ent st k:=rfl
theorem G_new (sl:List PV) (st:List (Option En)):(G.mk sl st).new = lenE st:=rfl
theorem mkKy_mk (s p:List Nat) (dst:Option (Nat × PV)) (up:List (Nat × En)):mkKy ⟨s,p⟩ ⟨dst,up⟩ = ⟨s,p,Dl.ws ⟨dst,up⟩,Dl.wp ⟨dst,up⟩⟩:=rfl
theorem ws_none (up:List (Nat × En)):Dl.ws ⟨none,up⟩ = []:=rfl
theorem ws_some (d:Nat) (p:PV) (up:List (Nat × En)):Dl.ws ⟨some (d,p),up⟩ = [d]:=rfl
theorem wp_nil (dst:Option (Nat × PV)):Dl.wp ⟨dst,[]⟩ = []:=rfl
theorem wp_cons (dst:Option (Nat × PV)) (k:Nat) (e:En) (r:List (Nat × En)):Dl.wp ⟨dst,(k,e) :: r⟩ = k :: Dl.wp ⟨none,r⟩:=rfl
attribute [go_sem] ifB_t ifB_f snoc snocO.eq_1 snocO.eq_2 addG.eq_1 addG.eq_2 stepS.eq_1 stepS.eq_2 stepS.eq_3 doIt.eq_1 skipS.eq_1 guardS.eq_1 guardS.eq_2 guardS.eq_3 gsl endK.eq_1 endK.eq_2 gOf2.eq_1 gOf2.eq_2 run thenT.eq_1 thenT.eq_2 thenT.eq_3 blockT.eq_1 blockT.eq_2 blockT.eq_3 normT.eq_1 condT.eq_1 regT.eq_1 regT.eq_2 wpc
attribute [go_sem] G_app setD_none setD_some upE G_at G_ev_tmp G_ev_const G_ev_func G_new shortL cpv cpv1 cpvs cellsPV PV.whole PV.one allOne mkv hd1 toD toDs rowsOf upTo allLen mkKy_mk ws_none ws_some wp_nil wp_cons sls osl TI.isAgg pvs_nil pvs_cons
attribute [go_sem] endQ loopQ lenQ res1 ress oneRes Eq2 List.map_cons List.map_nil apos appOk
attribute [go_sem] wks wk wkEs wkE lookO memO keeps nodL memL
attribute [go_sem] accD T.pv pvT noOwn noOwns toT toTs lenT treRows stpAppT rwsT allLenT tkT drT apT splT
end Go.Eng
namespace Go.Eng
open Go.RowKit
mutual
def lrn:PV → Prop
 | .d (.lst xs)=>xs.length ≤ LB
 | .d (.str s)=>s.length ≤ LB
 | .agg cs=>lrns cs
 | _=>True
def lrns:List PV → Prop
 | []=>True
 | p :: ps=>lrn p ∧ lrns ps
end
mutual
theorem RepPV.lrn {w:World} {ok:Nat → Prop} {ν:Nat → Nm} {st:Nat → Option En}:∀ (p:PV) (v:Value),RepPV w ok ν st p v → lrn p
 | .d (.lst xs),v,h=>by
   simp only [RepPV] at h
   simp only [Eng.lrn]
   exact h.len_le
 | .d (.str s),v,h=>by
   simp only [RepPV] at h
   simp only [Eng.lrn]
   exact h.str_inv.2
 | .agg cs,v,h=>by
   simp only [RepPV] at h
   simp only [Eng.lrn]
   obtain ⟨vs,_,h⟩:=h
   exact RepPVs.lrn cs vs h
 | .d (.val _),_,_=>by simp only [Eng.lrn]
 | .any,_,_=>by simp only [Eng.lrn]
 | .undef,_,_=>by simp only [Eng.lrn]
 | .nilS,_,_=>by simp only [Eng.lrn]
 | .tup _,_,_=>by simp only [Eng.lrn]
 | .ptr _ _,_,_=>by simp only [Eng.lrn]
 | .acc _,_,_=>by simp only [Eng.lrn]
 | .eptr _ _ _ _,_,_=>by simp only [Eng.lrn]
 | .iptr _ _ _,_,_=>by simp only [Eng.lrn]
 | .fn _ _,_,_=>by simp only [Eng.lrn]
theorem RepPVs.lrn {w:World} {ok:Nat → Prop} {ν:Nat → Nm} {st:Nat → Option En}:∀ (ps:List PV) (vs:List Value),RepPVs w ok ν st ps vs → lrns ps
 | [],_,_=>by simp only [Eng.lrns]
 | p :: ps,v :: vs,h=>by
   simp only [RepPVs] at h
   simp only [Eng.lrns]
   exact ⟨RepPV.lrn p v h.1,RepPVs.lrn ps vs h.2⟩
 | _ :: _,[],h=>by simp [RepPVs] at h
end
def lrnE:Option En → Prop
 | some (.box cs)=>lrns cs
 | some (.acc _ xs)=>xs.length ≤ LB
 | some (.tre _ xs)=>xs.length ≤ LB
 | _=>True
def lrnEs:List (Option En) → Prop
 | []=>True
 | e :: es=>lrnE e ∧ lrnEs es
theorem Sat.lrns {P:Program} {X:Cx} {ν:Nat → Nm} {g:G} {a:Act} {w:World} (h:Sat P X ν g a w):Eng.lrns g.sl:=by
 have key:∀ (ps:List PV),(∀ t,∃ v,RepPV w (Free X ν g.at) ν g.at (nth ps t) v) → Eng.lrns ps:=by
  intro ps
  induction ps with
  | nil=>intro _; simp only [Eng.lrns]
  | cons p ps ih=>
    intro hp
    simp only [Eng.lrns]
    obtain ⟨v,hv⟩:=hp 0
    exact ⟨RepPV.lrn p v hv,ih fun t=>hp (t + 1)⟩
 exact key _ fun t=>⟨_,h.sl t⟩
theorem Sat.lrnE {P:Program} {X:Cx} {ν:Nat → Nm} {g:G} {a:Act} {w:World} (h:Sat P X ν g a w) (k:Nat):Eng.lrnE (g.at k):=by
 cases hk:g.at k with
 | none=>trivial
 | some e=>
   have:=h.en k e hk
   cases e with
   | dead=>trivial
   | box cs=>obtain ⟨b,vs,T,_,_,h3,_⟩:=this; exact RepPVs.lrn cs vs h3
   | acc t xs=>obtain ⟨us,_,_,h3,_⟩:=this; exact h3
   | map kvs=>trivial
   | tre t xs=>
     have h1:=this.1
     simp only [TOk] at h1
     obtain ⟨us,F1,_,_,_,h4,_⟩:=h1
     exact h4
theorem lrnEs_of:∀ {l:List (Option En)},(∀ k,lrnE (ent l k)) → lrnEs l
 | [],_=>trivial
 | _ :: _,h=>⟨h 0,lrnEs_of fun k=>h (k + 1)⟩
theorem W_lrn {P:Program} {n0:Nat} {c:Code} {g:G} {Q:Ex → G → Prop} (h:lrns g.sl → lrnEs g.st → W P n0 c g Q):W P n0 c g Q:=fun X ν a w hp hs=>
 h hs.lrns (lrnEs_of fun k=>hs.lrnE k) X ν a w hp hs
theorem lrns_left:∀ {ps r:List PV},lrns (ps ++ r) → lrns ps
 | [],_,_=>by simp only [lrns]
 | p :: ps,r,h=>by
   simp only [List.cons_append,lrns] at h ⊢
   exact ⟨h.1,lrns_left h.2⟩
theorem C_go' {E : Env} (hm : E.P.follows .mixedOrders = true) {f : FuncId} {fn : Func} {c : Code} {args : List PV} {cst : List (Option En)} {R : PV → List (Option En) → Prop} {nt : Nat} {rs : List ResultVar} (hf : E.P.funcs[f]? = some fn) (hb : fn.body = some c) (hname : (fn.name == "runtime.NumGoroutine") = false)
 (hnt:fn.ntmps = nt) (hrs:fn.results.toList = rs) (h:lrns args → lrnEs cst → wpc E (lenE cst) c .on ⟨pad args nt,cst⟩ (fun _=>endQ (FinD E rs (lenE cst) R))):C E.P f args cst R:=by
 rw [lenE_eq] at h
 refine C_of_end hf hb hname (FinD E rs cst.length R) (fun _ _ _ _ _ h1 hp hs=>FinD.sat h1 hp hs hrs) ?_
 rw [hnt,← pad_eq]
 refine W_lrn fun h1 h2=>wpc_ok hm c _ _ (h ?_ h2)
 have h1:lrns (pad args nt):=h1
 rw [pad_eq] at h1
 exact lrns_left h1
theorem C_goS {E : Env} (hm : E.P.follows .mixedOrders = true) {f : FuncId} {fn : Func} {c : Code} {args : List PV} {cst : List (Option En)} {R : PV → List (Option En) → Prop} {nt : Nat} {rs : List ResultVar} (hf : E.P.funcs[f]? = some fn) (hb : fn.body = some c) (hname : (fn.name == "runtime.NumGoroutine") = false)
 (hnt:fn.ntmps = nt) (hrs:fn.results.toList = rs) (hn:leN (lenP args) nt = true) (h:lrns args → lrnEs cst → wpc E (lenE cst) c .on ⟨mkS nt .undef (ixs 0 args),cst⟩ (fun _=>endQ (FinD E rs (lenE cst) R))):C E.P f args cst R:=by
 have hn:=leN_le hn
 rw [lenP_eq] at hn
 rw [← pad_mkS hn] at h
 exact C_go' hm hf hb hname hnt hrs h
attribute [go_sem] lrn lrns lrnE lrnEs
end Go.Eng
namespace Go.Eng
open Go.RowKit
mutual
theorem ren_lt0 (m:List Nat):∀ (p:PV),p.lt 0 = true → p.ren m = p
 | .agg cs,h=>by simp only [PV.lt] at h; simp only [PV.ren,rens_lt0 m cs h]
 | .tup cs,h=>by simp only [PV.lt] at h; simp only [PV.ren,rens_lt0 m cs h]
 | .fn f cs,h=>by simp only [PV.lt] at h; simp only [PV.ren,rens_lt0 m cs h]
 | .any,_=>rfl
 | .undef,_=>rfl
 | .nilS,_=>rfl
 | .d _,_=>rfl
 | .iptr _ _ _,_=>rfl
 | .ptr _ _,h=>by simp [PV.lt] at h
 | .acc _,h=>by simp [PV.lt] at h
 | .eptr _ _ _ _,h=>by simp [PV.lt] at h
theorem rens_lt0 (m:List Nat):∀ (ps:List PV),lts 0 ps = true → rens m ps = ps
 | [],_=>rfl
 | p :: ps,h=>by
   simp only [lts,Bool.and_eq_true] at h
   simp only [rens,ren_lt0 m p h.1,rens_lt0 m ps h.2]
end
section
variable {E:Env} {g:G} {d:Nat} {ty:TypeId} {pos:String} {aft:Array Edge} {gd:Option (Nat × Bool)}
theorem st_callP (fop:Operand) (xs:List Operand) (tys:Array TypeId) (f:FuncId) (cap:List PV) (hfn:g.ev fop = .fn f cap) (cargs:List PV) (res:PV) (hC:C E.P f cargs [] (Eq2 res [])) (hargs:cvs (xs.map g.ev ++ cap) cargs) (hlt:lts 0 cargs = true) (hres:res.lt 0 = true) :
 StS E.P ⟨some d,.call ⟨.value fop,⟨xs⟩,tys⟩,ty,pos,aft,gd⟩ g ⟨sls fop ++ xs.flatMap sls,[]⟩ ⟨some (d,res),[]⟩:=by
 have h:=st_call (E:=E) (g:=g) (d:=d) (ty:=ty) (pos:=pos) (aft:=aft) (gd:=gd) fop xs tys f cap hfn [] cargs [] [] res hC (by rw [rens_lt0 _ _ hlt]; exact hargs) hlt (by simp) (by simp) trivial trivial (by simp) (by simp)
 rw [ren_lt0 _ _ hres] at h
 exact h
end
def iv (n:Int):PV:=.d (.val (.int .i64 n))
def bv (b:Bool):PV:=.d (.val (.bool b))
def sv (s:List UInt8):PV:=.d (.str s)
def lv (xs:List (List D)):PV:=.d (.lst xs)
attribute [go_sem] iv bv sv lv PV.ren rens upOf look PV.lt lts Option.map_none Option.map_some Option.toList_none Option.toList_some
end Go.Eng
namespace Go.Eng
open Go.RowKit
section
variable {E:Env} {n0:Nat} {g:G} {c:Code} {Q:Ex → G → Prop}
def loopQ1 {A:Type} (P:Program) (n0:Nat) (I:A → Prop) (T:A → G) (μ:A → Nat) (a:A) (Q:Ex → G → Prop):Ex → G → Prop
 | .normal,g=>∃ a',I a' ∧ μ a' < μ a ∧ Weak P n0 g (T a')
 | .exit id,g=>Q (.exit id) g
 | .ret,g=>Q .ret g
def loopQ2 {A B:Type} (P:Program) (n0:Nat) (I:A → B → Prop) (T:A → B → G) (μ:A → B → Nat) (a:A) (b:B) (Q:Ex → G → Prop):Ex → G → Prop
 | .normal,g=>∃ a' b',I a' b' ∧ μ a' b' < μ a b ∧ Weak P n0 g (T a' b')
 | .exit id,g=>Q (.exit id) g
 | .ret,g=>Q .ret g
def loopQ3 {A B C:Type} (P:Program) (n0:Nat) (I:A → B → C → Prop) (T:A → B → C → G) (μ:A → B → C → Nat) (a:A) (b:B) (c:C) (Q:Ex → G → Prop):Ex → G → Prop
 | .normal,g=>∃ a' b' c',I a' b' c' ∧ μ a' b' c' < μ a b c ∧ Weak P n0 g (T a' b' c')
 | .exit id,g=>Q (.exit id) g
 | .ret,g=>Q .ret g
theorem loop_go1 (hm:E.P.follows .mixedOrders = true) {A:Type} (I:A → Prop) (T:A → G) (μ:A → Nat) (a0:A) (hi:I a0) (h0:Weak E.P n0 g (T a0))
 (round:∀ a,I a → wpc E n0 c .on (T a) (fun _=>loopQ1 E.P n0 I T μ a Q)):W E.P n0 (.loop c) g Q:=by
 refine W_loop (α:={a // I a}) (fun x=>T x.1) (fun x=>μ x.1) ⟨a0,hi⟩ h0 ?_
 rintro ⟨a,ha⟩
 have h:=wpc_ok hm c _ _ (round a ha)
 have e:(loopQ1 E.P n0 I T μ a Q) = (loopQ E.P n0 (fun x:{a // I a}=>T x.1) (fun x=>μ x.1) ⟨a,ha⟩ Q):=by
  funext e g'
  cases e with
  | normal=>
    simp only [loopQ1,loopQ]
    apply propext
    exact ⟨fun ⟨a',h1,h2,h3⟩=>⟨⟨a',h1⟩,h2,h3⟩,fun ⟨⟨a',h1⟩,h2,h3⟩=>⟨a',h1,h2,h3⟩⟩
  | exit id=>rfl
  | ret=>rfl
 rw [← e]
 exact h
theorem loop_go2 (hm:E.P.follows .mixedOrders = true) {A B:Type} (I:A → B → Prop) (T:A → B → G) (μ:A → B → Nat) (a0:A) (b0:B) (hi:I a0 b0) (h0:Weak E.P n0 g (T a0 b0))
 (round:∀ a b,I a b → wpc E n0 c .on (T a b) (fun _=>loopQ2 E.P n0 I T μ a b Q)):W E.P n0 (.loop c) g Q:=by
 refine loop_go1 hm (A:=A × B) (fun x=>I x.1 x.2) (fun x=>T x.1 x.2) (fun x=>μ x.1 x.2) (a0,b0) hi h0 ?_
 rintro ⟨a,b⟩ h
 have h:=round a b h
 have e:(loopQ2 E.P n0 I T μ a b Q) = (loopQ1 E.P n0 (fun x:A × B=>I x.1 x.2) (fun x=>T x.1 x.2) (fun x=>μ x.1 x.2) (a,b) Q):=by
  funext e g'
  cases e with
  | normal=>
    simp only [loopQ1,loopQ2]
    apply propext
    exact ⟨fun ⟨a',b',h1,h2,h3⟩=>⟨(a',b'),h1,h2,h3⟩,fun ⟨(a',b'),h1,h2,h3⟩=>⟨a',b',h1,h2,h3⟩⟩
  | exit id=>rfl
  | ret=>rfl
 rw [e] at h
 exact h
theorem loop_go3 (hm:E.P.follows .mixedOrders = true) {A B D:Type} (I:A → B → D → Prop) (T:A → B → D → G) (μ:A → B → D → Nat) (a0:A) (b0:B) (d0:D) (hi:I a0 b0 d0) (h0:Weak E.P n0 g (T a0 b0 d0))
 (round:∀ a b d,I a b d → wpc E n0 c .on (T a b d) (fun _=>loopQ3 E.P n0 I T μ a b d Q)):W E.P n0 (.loop c) g Q:=by
 refine loop_go2 hm (A:=A) (B:=B × D) (fun a x=>I a x.1 x.2) (fun a x=>T a x.1 x.2) (fun a x=>μ a x.1 x.2) a0 (b0,d0) hi h0 ?_
 rintro a ⟨b,d⟩ h
 have h:=round a b d h
 have e:(loopQ3 E.P n0 I T μ a b d Q) = (loopQ2 E.P n0 (fun a (x:B × D)=>I a x.1 x.2) (fun a x=>T a x.1 x.2) (fun a x=>μ a x.1 x.2) a (b,d) Q):=by
  funext e g'
  cases e with
  | normal=>
    simp only [loopQ3,loopQ2]
    apply propext
    exact ⟨fun ⟨a',b',d',h1,h2,h3⟩=>⟨a',(b',d'),h1,h2,h3⟩,fun ⟨a',(b',d'),h1,h2,h3⟩=>⟨a',b',d',h1,h2,h3⟩⟩
  | exit id=>rfl
  | ret=>rfl
 rw [e] at h
 exact h
end
theorem getD_lt {α:Type} {l:List α} {i:Nat} (h:i < l.length) (d:α):l.getD i d = l[i]:=by simp [List.getD,List.getElem?_eq_getElem h]
mutual
theorem wk_rfl {g:G} {m:List (Option Nat)}:∀ {p:PV},p.lt 0 = true → wk g m p p
 | .agg cs,h=>by simp only [PV.lt] at h; simp only [wk]; exact wks_rfl h
 | .tup cs,h=>by simp only [PV.lt] at h; simp only [wk]; exact wks_rfl h
 | .fn f cs,h=>by simp only [PV.lt] at h; simp only [wk,true_and]; exact wks_rfl h
 | .any,_=>by simp only [wk]
 | .undef,_=>by simp only [wk]
 | .nilS,_=>by simp only [wk]
 | .d _,_=>by simp only [wk]
 | .iptr _ _ _,_=>by simp only [wk,and_self]
 | .ptr _ _,h=>by simp [PV.lt] at h
 | .acc _,h=>by simp [PV.lt] at h
 | .eptr _ _ _ _,h=>by simp [PV.lt] at h
theorem wks_rfl {g:G} {m:List (Option Nat)}:∀ {ps:List PV},lts 0 ps = true → wks g m ps ps
 | [],_=>by simp only [wks]
 | p :: ps,h=>by
   simp only [lts,Bool.and_eq_true] at h
   simp only [wks]
   exact ⟨wk_rfl h.1,wks_rfl h.2⟩
end
theorem int_bne (a b:Int):(a != b) = !decide (a = b):=by
 by_cases h:a = b <;> simp [h]
theorem int_beq (a b:Int):(a == b) = decide (a = b):=by
 by_cases h:a = b <;> simp [h]
theorem str_beq (a b:List UInt8):(a == b) = decide (a = b):=by
 by_cases h:a = b <;> simp [h]
theorem row_head (x:List D) (xs:List (List D)):row (x :: xs) 0 = x:=rfl
attribute [go_sem] row_head
theorem some_ex (e0:En) (Q:En → Prop):(∃ e,some e0 = some e ∧ Q e) = Q e0:=by
 apply propext
 constructor
 ·rintro ⟨e,h,hq⟩
  cases h
  exact hq
 ·intro hq
  exact ⟨_,rfl,hq⟩
theorem natCast_lit (n:Nat):((no_index (OfNat.ofNat n):Nat):Int) = OfNat.ofNat n:=rfl
theorem some_ex2 (e0:En):(∃ e,some e0 = some e) = True:=eq_true ⟨_,rfl⟩
theorem dlst_eq (xs ys:List (List D)):(D.lst xs = D.lst ys) = (xs = ys):=by simp
attribute [go_sem] List.mem_cons List.not_mem_nil or_false forall_eq List.length_take List.length_map
attribute [go_sem] Int.natCast_add Int.natCast_one Int.natCast_zero natCast_lit some_ex2 ite_true ite_false some_ex dlst_eq List.take_zero eq_self
attribute [go_sem] int_bne int_beq str_beq
attribute [go_sem] List.cons_append List.nil_append List.append_nil
theorem cvs_self (ps:List PV):cvs ps ps = True:=eq_true (cvs_rfl ps)
attribute [go_sem] cv cvs cvs_self
theorem atCall {m:Option (List Ky)} {gs:Option Nat} {d:Nat} {ty:TypeId} {pos:String} {aft:Array Edge} {gd:Option (Nat × Bool)} {E:Env} {g:G} {rest:Tok → Option (List Ky) → G → Prop} {fop:Operand} {xs:List Operand} {tys:Array TypeId} {f:FuncId} (cap:List PV) {cargs:List PV} {res:PV}
 (hC:C E.P f cargs [] (Eq2 res [])) (h:g.ev fop = .fn f cap ∧ cvs (evs g xs ++ cap) cargs ∧ lts 0 cargs = true ∧ res.lt 0 = true)
 (hr:rest .on (snocO m (mkKy (addG gs ⟨sls fop ++ slss xs,[]⟩) ⟨some (d,res),[]⟩)) (g.app ⟨some (d,res),[]⟩)):atOp E m gs ⟨some d,.call ⟨.value fop,⟨xs⟩,tys⟩,ty,pos,aft,gd⟩ g rest:=by
 rw [slss_eq] at hr
 rw [evs_eq] at h
 exact atOp_by (st_callP fop xs tys f cap h.1 cargs res hC h.2.1 h.2.2.1 h.2.2.2) hr
theorem atLook {m:Option (List Ky)} {gs:Option Nat} {d:Nat} {ty:TypeId} {pos:String} {aft:Array Edge} {gd:Option (Nat × Bool)} {E:Env} {g:G} {rest:Tok → Option (List Ky) → G → Prop} {fop:Operand} {xs:List Operand} {tys:Array TypeId} {f:FuncId} (cap:List PV) (ks:List Nat) {cargs:List PV} {res:PV}
 (hC:C E.P f cargs [] (Eq2 res [])) (h1:g.ev fop = .fn f cap) (h2:Vws g ks (evs g xs ++ cap) cargs) (h3:sc res = true)
 (hr:rest .on (snocO m (mkKy (addG gs ⟨sls fop ++ slss xs,ks⟩) ⟨some (d,res),[]⟩)) (g.app ⟨some (d,res),[]⟩)):atOp E m gs ⟨some d,.call ⟨.value fop,⟨xs⟩,tys⟩,ty,pos,aft,gd⟩ g rest:=by
 rw [slss_eq] at hr
 rw [evs_eq] at h2
 exact atOp_by (st_look fop xs tys f cap h1 ks cargs res hC h2 h3) hr
def memE (k:Nat):List Nat → Bool
 | []=>false
 | j :: js=>eqN k j || memE k js
theorem eqN_self:∀ (k:Nat),eqN k k = true
 | 0=>rfl
 | k + 1=>eqN_self k
theorem memE_of {k:Nat}:∀ {m:List Nat},k ∈ m → memE k m = true
 | [],h=>by simp at h
 | j :: js,h=>by
   simp only [memE,Bool.or_eq_true]
   rcases List.mem_cons.1 h with rfl | h
   ·exact .inl (eqN_self _)
   ·exact .inr (memE_of h)
def nodN:List Nat → Bool
 | []=>true
 | k :: ks=>!memE k ks && nodN ks
theorem nodN_ok:∀ {m:List Nat},nodN m = true → m.Nodup
 | [],_=>by simp
 | k :: ks,h=>by
   simp only [nodN,Bool.and_eq_true,Bool.not_eq_true'] at h
   refine List.nodup_cons.2 ⟨fun hk=>?_,nodN_ok h.2⟩
   rw [memE_of hk] at h
   cases h.1
def lenN:List Nat → Nat
 | []=>0
 | _ :: as=>lenN as + 1
theorem lenN_eq:∀ (l:List Nat),lenN l = l.length
 | []=>rfl
 | _ :: as=>by simp [lenN,lenN_eq as]
theorem atOwn {m:Option (List Ky)} {gs:Option Nat} {d:Nat} {ty:TypeId} {pos:String} {aft:Array Edge} {gd:Option (Nat × Bool)} {E:Env} {g:G} {rest:Tok → Option (List Ky) → G → Prop} {fop:Operand} {xs:List Operand} {tys:Array TypeId} {f:FuncId} (cap:List PV) (M:List Nat) {cargs:List PV} {cst st':List (Option En)} {res:PV}
 (hC:C E.P f cargs cst (Eq2 res st')) (h:g.ev fop = .fn f cap ∧ cvs (evs g xs ++ cap) (rens M cargs) ∧ lts (lenE cst) cargs = true ∧ nodN M = true ∧ leN (lenE cst) (lenN M) = true ∧ leN (lenE cst) (lenE st') = true ∧ leN (lenE st') (lenN M) = true ∧ FitsL g M (lenE cst) M cst ∧ FreshL g (lenE cst) M)
 (hr:rest .on (snocO m (mkKy (addG gs ⟨sls fop ++ slss xs,M⟩) ⟨some (d,res.ren M),upOf M M st'⟩)) (g.app ⟨some (d,res.ren M),upOf M M st'⟩)):atOp E m gs ⟨some d,.call ⟨.value fop,⟨xs⟩,tys⟩,ty,pos,aft,gd⟩ g rest:=by
 rw [slss_eq] at hr
 rw [evs_eq] at h
 obtain ⟨h1,h2,h3,h4,h5,h6,h7,h8,h9⟩:=h
 have h5:=leN_le h5
 have h6:=leN_le h6
 have h7:=leN_le h7
 rw [lenE_eq,lenN_eq] at h5
 rw [lenE_eq,lenE_eq] at h6
 rw [lenE_eq,lenN_eq] at h7
 rw [lenE_eq] at h3 h8 h9
 exact atOp_by (st_call fop xs tys f cap h1 M cargs cst st' res hC h2 h3 (nodN_ok h4) h5 h8 h9 h6 h7) hr
theorem finM {E:Env} {rs:List ResultVar} {n0:Nat} {g:G} {ps:List PV} {q:PV} {st':List (Option En)} (m:List (Option Nat)) (h1:ress E g rs = some ps) (h2:wks ⟨[oneRes ps],g.st⟩ m [oneRes ps] [q] ∧ wkEs ⟨[oneRes ps],g.st⟩ m m st') (h3:nodL m st' = true) (h4:keeps n0 0 m = true):FinD E rs n0 (Eq2 q st') g:=
 ⟨ps,m,q,st',h1,⟨h2.1,h2.2,h3,h4⟩,rfl,rfl⟩
theorem fin1' {E:Env} {rs:List ResultVar} {g:G} {q:PV} (h:(ress E g rs).elim False fun ps=>wk ⟨[oneRes ps],g.st⟩ [] (oneRes ps) q):FinD E rs 0 (Eq2 q []) g:=by
 cases hps:ress E g rs with
 | none=>rw [hps] at h; exact h.elim
 | some ps=>rw [hps] at h; exact fin1 hps h
theorem finM' {E:Env} {rs:List ResultVar} {n0:Nat} {g:G} {q:PV} {st':List (Option En)} (m:List (Option Nat)) (h:(ress E g rs).elim False fun ps=>wks ⟨[oneRes ps],g.st⟩ m [oneRes ps] [q] ∧ wkEs ⟨[oneRes ps],g.st⟩ m m st') (h3:nodL m st' = true) (h4:keeps n0 0 m = true):FinD E rs n0 (Eq2 q st') g:=by
 cases hps:ress E g rs with
 | none=>rw [hps] at h; exact h.elim
 | some ps=>rw [hps] at h; exact finM m hps h h3 h4
attribute [go_sem] Option.elim_some
attribute [go_sem] nodN lenN memE FitsL FreshL En.ren En.lt En.live Bool.not_true Bool.not_false Bool.or_true Bool.true_or Bool.or_false Bool.false_or Bool.false_and Bool.and_false
attribute [go_sem] sc scs
attribute [go_sem] loopQ1 loopQ2 loopQ3 I64 and_true true_and and_self Int.natCast_nonneg Int.le_refl Int.toNat_zero Nat.zero_lt_succ Nat.zero_add Nat.add_zero Nat.le_refl Int.toNat_natCast Int.ofNat_lt Int.ofNat_le Int.ofNat_inj decide_true decide_false Bool.not_true Bool.not_false List.length_cons List.length_nil gt_iff_lt ge_iff_le
attribute [go_sem] Bool.true_and Bool.and_true Bool.and_self beq_self_eq_true
end Go.Eng
namespace Go.Eng
open Go.RowKit
theorem own_none (ν:Nat → Nm) (b:Nat):¬ Own ν (ent []) b:=by
 rintro ⟨k,e,h,_⟩
 cases k <;> simp [ent] at h
section
variable {P:Program} {X:Cx} {vs:List Value} {e:TypeId} {xs:List (List D)} {rest:List PV}
theorem eat_enter (hr:lts 0 rest = true) (hs:Sat P X X.ν0 ⟨.acc 0 :: rest,[some (.acc e xs)]⟩ ⟨⟨vs⟩,[]⟩ X.w0) :
 Sat P ⟨X.w0,Own X.ν0 (ent []),X.ν0,ent [],X.Z⟩ X.ν0 ⟨.d (.lst xs) :: rest,[]⟩ ⟨⟨vs⟩,[]⟩ X.w0:=by
 have hw:∀ b,Free X X.ν0 (G.at ⟨.acc 0 :: rest,[some (.acc e xs)]⟩) b → b < X.w0.heap.size → Free ⟨X.w0,Own X.ν0 (ent []),X.ν0,ent [],X.Z⟩ X.ν0 (G.at ⟨.d (.lst xs) :: rest,[]⟩) b ∧ X.w0.heap[b]? = X.w0.heap[b]?:=fun b hb _=>⟨⟨own_none _ b,hb.2⟩,rfl⟩
 have hat:∀ k,G.at ⟨.d (.lst xs) :: rest,[]⟩ k = none:=fun _=>rfl
 refine ⟨hs.size,fun t=>?_,fun k e h=>?_,fun k k' e e' b h=>?_,fun b hb=>?_,fun k h=>?_,fun k h=>?_,⟨fun b hb=>?_,hs.kt rfl fun b hb=>(own_none _ b hb).elim⟩,Chg.refl _ _,rfl⟩
 ·cases t with
  | zero=>
    have h:=hs.sl 0
    simp only [nth,RepPV] at h ⊢
    rw [h.2]
    obtain ⟨us,h1,h2,h3,_⟩:=hs.en 0 (.acc e xs) rfl
    exact acc_data h1 h2 h3 (fun b hb=>⟨own_none _ b,hs.notZ ⟨0,_,rfl,rfl,.inl hb⟩⟩) hw
  | succ t=>
    have h:=hs.sl (t + 1)
    simp only [nth] at h ⊢
    have hl:∀ (ps:List PV) (t:Nat),lts 0 ps = true → (nth ps t).lt 0 = true:=by
     intro ps
     induction ps with
     | nil=>intro t _; rfl
     | cons p ps ih=>
       intro t h
       simp only [lts,Bool.and_eq_true] at h
       cases t with
       | zero=>exact h.1
       | succ t=>exact ih t h.2
    exact RepPV.lt0 hw _ _ (hl rest t hr) h
 ·rw [hat] at h; cases h
 ·rw [hat] at h; cases h
 ·exact (own_none _ b hb).elim
 ·rw [hat] at h; cases h
 ·cases k <;> simp [ent] at h
 ·exact ⟨(hs.zlt b hb).1,own_none _ b⟩
theorem C_eat1 {f:FuncId} {e':TypeId} {ys:List (List D)} (hr:lts 0 rest = true) (hC:C P f (.d (.lst xs) :: rest) [] (Eq2 (.acc 0) [some (.acc e' ys)])):C P f (.acc 0 :: rest) [some (.acc e xs)] (Eq2 (.acc 1) [some .dead,some (.acc e' ys)]):=by
 refine ⟨hC.1,fun X vs hst hO hs=>?_⟩
 refine (hC.2 _ vs rfl rfl (eat_enter hr hs)).mono ?_
 rintro ex w' ⟨v,_,_,ν',rfl,⟨rfl,rfl⟩,hsat⟩
 refine ⟨v,_,_,fun | 0=>X.ν0 0 | k + 1=>ν' k,rfl,⟨rfl,rfl⟩,?_⟩
 have hat:∀ k e,G.at ⟨[.acc 1],[some .dead,some (.acc e' ys)]⟩ k = some e → e.live = true → k = 1 ∧ e = .acc e' ys:=by
  intro k e h hl
  match k,h with
  | 0,h=>
    obtain rfl:En.dead = e:=by simpa [G.at,ent] using h
    cases hl
  | 1,h=>exact ⟨rfl,by simpa [G.at,ent] using h.symm⟩
  | k + 2,h=>simp [G.at,ent] at h
 have hown:∀ b,Own (fun | 0=>X.ν0 0 | k + 1=>ν' k) (G.at ⟨[.acc 1],[some .dead,some (.acc e' ys)]⟩) b ↔ Own ν' (G.at ⟨[.acc 0],[some (.acc e' ys)]⟩) b:=by
  intro b
  constructor
  ·rintro ⟨k,e,h,hl,hb⟩
   obtain ⟨rfl,rfl⟩:=hat k e h hl
   exact ⟨0,_,rfl,rfl,hb⟩
  ·rintro ⟨k,e,h,hl,hb⟩
   match k,h with
   | 0,h=>
     obtain rfl:En.acc e' ys = e:=by simpa [G.at,ent] using h
     exact ⟨1,_,rfl,rfl,hb⟩
   | k + 1,h=>simp [G.at,ent] at h
 have hw:∀ b,Free (⟨X.w0,Own X.ν0 (ent []),X.ν0,ent [],X.Z⟩:Cx) ν' (G.at ⟨[.acc 0],[some (.acc e' ys)]⟩) b → b < w'.heap.size → Free X (fun | 0=>X.ν0 0 | k + 1=>ν' k) (G.at ⟨[.acc 1],[some .dead,some (.acc e' ys)]⟩) b ∧ w'.heap[b]? = w'.heap[b]?:=fun b hb _=>⟨⟨fun h=>hb.1 ((hown b).1 h),hb.2⟩,rfl⟩
 refine ⟨rfl,fun t=>?_,fun k e h=>?_,fun k k' e e2 b h1 h2 hl hl2 _ _=>?_,fun b hb=>?_,fun k h=>?_,fun k h=>?_,hs.zlt,hsat.chg.mono fun b hb _=>(own_none _ b hb).elim,rfl⟩
 ·cases t with
  | zero=>
    have h:=hsat.sl 0
    simp only [nth,RepPV] at h ⊢
    exact ⟨rfl,h.2⟩
  | succ t=>exact trivial
 ·match k,h with
  | 0,h=>
    obtain rfl:En.dead = e:=by simpa [G.at,ent] using h
    exact trivial
  | 1,h=>
    obtain rfl:En.acc e' ys = e:=by simpa [G.at,ent] using h
    obtain ⟨us,h1,h2,h3⟩:=hsat.en 0 _ rfl
    exact ⟨us,h1,h2.frame hw (Nat.le_refl _),h3⟩
  | k + 2,h=>simp [G.at,ent] at h
 ·rw [(hat k e h1 hl).1,(hat k' e2 h2 hl2).1]
 ·rcases hsat.base b ((hown b).1 hb) with h | h
  ·exact (own_none _ b h).elim
  ·exact .inr h
 ·match k,h with
  | 0,_=>exact hs.nu 0 rfl
  | 1,_=>exact hsat.nu 0 rfl
  | k + 2,h=>simp [G.at,ent] at h
 ·rw [hst] at h
  match k,h with
  | 0,_=>exact ⟨rfl,rfl⟩
  | k + 1,h=>simp [ent] at h
end
end Go.Eng
namespace Go.Eng
open Go.RowKit
def unionM (M:List Nat):List Nat → Nat
 | []=>0
 | j :: js=>Nat.lor (Nat.lor (Nat.pow 2 j) (M.getD j 0)) (unionM M js)
def befM:List Oper → List Nat → List Nat
 | [],M=>M
 | o :: os,M=>befM os (M ++ [unionM M (directs o)])
def bitM (b k:Nat):Bool:=Nat.beq (Nat.land (Nat.shiftRight b k) 1) 1
def clear1M (b:Nat) (y:Ky):Nat → List Ky → Bool
 | _,[]=>true
 | j,x :: xs=>(bitM b j || !(x.clash y)) && clear1M b y (j + 1) xs
def clearsM (M:List Nat):Nat → List Ky → List Ky → Bool
 | _,_,[]=>true
 | i,pre,y :: ys=>clear1M (M.getD i 0) y 0 pre && clearsM M (i + 1) (pre ++ [y]) ys
def indepM (os:List Oper) (L:List Ky):Bool:=fwds 0 os && clearsM (befM os []) 0 [] L
theorem bitM_eq (b k:Nat):bitM b k = b.testBit k:=by
 simp only [bitM,Nat.testBit]
 have h:Nat.land (Nat.shiftRight b k) 1 = (b >>> k) &&& 1:=rfl
 rw [h,Nat.and_comm 1 (b >>> k),Nat.and_one_is_mod]
 rcases Nat.mod_two_eq_zero_or_one (b >>> k) with h2 | h2 <;> rw [h2] <;> rfl
def Cor (T:List (List Nat)) (M:List Nat):Prop:=T.length = M.length ∧ ∀ j k,memN k (T.getD j []) = bitM (M.getD j 0) k
theorem bool_iff {a b:Bool} (h:a = true ↔ b = true):a = b:=by
 cases a <;> cases b <;> simp_all
theorem memN_cons (k j:Nat) (l:List Nat):memN k (j :: l) = (decide (j = k) || memN k l):=by
 apply bool_iff
 simp only [memN_iff,List.mem_cons,Bool.or_eq_true,decide_eq_true_eq]
 exact ⟨fun h=>h.imp Eq.symm id,fun h=>h.imp Eq.symm id⟩
theorem memN_app (k:Nat) (l l':List Nat):memN k (l ++ l') = (memN k l || memN k l'):=by
 apply bool_iff
 simp only [memN_iff,List.mem_append,Bool.or_eq_true]
theorem unionM_cor {T:List (List Nat)} {M:List Nat} (h:Cor T M) (k:Nat):∀ (js:List Nat),memN k (unions T js) = bitM (unionM M js) k
 | []=>by
   simp only [unions,unionM,bitM_eq,Nat.zero_testBit]
   rfl
 | j :: js=>by
   have e:Nat.lor (Nat.lor (Nat.pow 2 j) (M.getD j 0)) (unionM M js) = (2 ^ j ||| M.getD j 0) ||| unionM M js:=rfl
   simp only [unions,unionM,e,memN_cons,memN_app,unionM_cor h k js,h.2 j k]
   simp only [bitM_eq,Nat.testBit_or,Nat.testBit_two_pow,Bool.or_assoc]
theorem befM_cor:∀ (os:List Oper) {T:List (List Nat)} {M:List Nat},Cor T M → Cor (befores os T) (befM os M)
 | [],_,_,h=>h
 | o :: os,T,M,h=>by
   simp only [befores,befM]
   refine befM_cor os ⟨by simp [h.1],fun j k=>?_⟩
   rcases Nat.lt_trichotomy j T.length with hj | hj | hj
   ·have hj':j < M.length:=by rw [← h.1]; exact hj
    have:=h.2 j k
    rw [List.getD_eq_getElem?_getD,List.getD_eq_getElem?_getD] at this ⊢
    rwa [List.getElem?_append_left hj,List.getElem?_append_left hj']
   ·subst hj
    have hM:M.length ≤ T.length:=by rw [h.1]; exact Nat.le_refl _
    rw [List.getD_eq_getElem?_getD,List.getD_eq_getElem?_getD,List.getElem?_append_right (Nat.le_refl _),List.getElem?_append_right hM,← h.1]
    simp only [Nat.sub_self,List.getElem?_cons_zero,Option.getD_some]
    exact unionM_cor h k _
   ·have hj':M.length < j:=by rw [← h.1]; exact hj
    rw [List.getD_eq_getElem?_getD,List.getD_eq_getElem?_getD,List.getElem?_eq_none (by simp; omega),List.getElem?_eq_none (by simp; omega)]
    simp only [Option.getD_none,bitM_eq,Nat.zero_testBit]
    rfl
theorem clear1M_eq {b:List Nat} {c:Nat} (h:∀ k,memN k b = bitM c k) (y:Ky):∀ (j:Nat) (l:List Ky),clear1M c y j l = clear1 b y j l
 | _,[]=>rfl
 | j,x :: xs=>by simp only [clear1M,clear1,h,clear1M_eq h y (j + 1) xs]
theorem clearsM_eq {T:List (List Nat)} {M:List Nat} (h:Cor T M):∀ (i:Nat) (pre l:List Ky),clearsM M i pre l = clears T i pre l
 | _,_,[]=>rfl
 | i,pre,y :: ys=>by simp only [clearsM,clears,clear1M_eq (h.2 i),clearsM_eq h (i + 1)]
theorem indepM_ok {os:List Oper} {L:List Ky} (h:indepM os L = true):indep os L = true:=by
 simp only [indepM,Bool.and_eq_true] at h
 simp only [indep,Bool.and_eq_true]
 refine ⟨h.1,?_⟩
 rw [← clearsM_eq (befM_cor os (T:=[]) (M:=[]) ⟨rfl,fun j k=>?_⟩)]
 ·exact h.2
 ·simp only [List.getD_nil,bitM_eq,Nat.zero_testBit]
  rfl
theorem ind_andM {os:List Oper} {L:List Ky} {p:Prop} (h:indepM os L = true) (hp:p):indep os L = true ∧ p:=⟨indepM_ok h,hp⟩
end Go.Eng
namespace Go.Eng
open Go.RowKit
theorem Vws.nth {g:G} {ks:List Nat}:∀ {ps qs:List PV},Vws g ks ps qs → ∀ t,Vw g ks (nth ps t) (nth qs t)
 | _,_,.nil,t=>by cases t <;> exact .same rfl
 | _,_,.cons h _,0=>h
 | _,_,.cons _ h',t + 1=>Vws.nth h' t
theorem Vws.len {g:G} {ks:List Nat}:∀ {ps qs:List PV},Vws g ks ps qs → qs.length = ps.length
 | _,_,.nil=>rfl
 | _,_,.cons _ h'=>by simp only [List.length_cons,Vws.len h']
section
variable {P:Program} {X:Cx} {vs:List Value} {e:TypeId} {xs:List (List D)}
theorem eat_enterV {args args':List PV} (hv:Vws ⟨args,[some (.acc e xs)]⟩ [0] args args') (hs:Sat P X X.ν0 ⟨args,[some (.acc e xs)]⟩ ⟨⟨vs⟩,[]⟩ X.w0) :
 Sat P ⟨X.w0,Own X.ν0 (ent []),X.ν0,ent [],X.Z⟩ X.ν0 ⟨args',[]⟩ ⟨⟨vs⟩,[]⟩ X.w0:=by
 have hw:∀ b,Free X X.ν0 (G.at ⟨args,[some (.acc e xs)]⟩) b → b < X.w0.heap.size → Free ⟨X.w0,Own X.ν0 (ent []),X.ν0,ent [],X.Z⟩ X.ν0 (G.at ⟨args',[]⟩) b ∧ X.w0.heap[b]? = X.w0.heap[b]?:=fun b hb _=>⟨⟨own_none _ b,hb.2⟩,rfl⟩
 have hown:∀ b,Own X.ν0 (G.at ⟨args,[some (.acc e xs)]⟩) b → Free ⟨X.w0,Own X.ν0 (ent []),X.ν0,ent [],X.Z⟩ X.ν0 (G.at ⟨args',[]⟩) b:=fun b hb=>⟨own_none _ b,hs.notZ hb⟩
 have hat:∀ k,G.at ⟨args',[]⟩ k = none:=fun _=>rfl
 refine ⟨hs.size.trans hv.len.symm,fun t=>RepPV.vw hs hw hown _ (hv.nth t) (hs.sl t),fun k e h=>?_,fun k k' e e' b h=>?_,fun b hb=>?_,fun k h=>?_,fun k h=>?_,⟨fun b hb=>?_,hs.kt rfl fun b hb=>(own_none _ b hb).elim⟩,Chg.refl _ _,rfl⟩
 ·rw [hat] at h; cases h
 ·rw [hat] at h; cases h
 ·exact (own_none _ b hb).elim
 ·rw [hat] at h; cases h
 ·cases k <;> simp [ent] at h
 ·exact ⟨(hs.zlt b hb).1,own_none _ b⟩
theorem C_eatV {f:FuncId} {res:PV} {args args':List PV} (hv:Vws ⟨args,[some (.acc e xs)]⟩ [0] args args') (hres:res.lt 0 = true) (hC:C P f args' [] (Eq2 res [])):C P f args [some (.acc e xs)] (Eq2 res [some .dead]):=by
 refine ⟨hC.1,fun X vs hst hO hs=>?_⟩
 refine (hC.2 _ vs rfl rfl (eat_enterV hv hs)).mono ?_
 rintro ex w' ⟨v,r,s,ν',rfl,⟨e1,e2⟩,hsat⟩
 rw [e1,e2] at hsat
 refine ⟨v,_,_,X.ν0,rfl,⟨rfl,rfl⟩,?_⟩
 have hno:∀ b,¬ Own X.ν0 (G.at ⟨[res],[some .dead]⟩) b:=by
  rintro b ⟨k,e,h,hl,_⟩
  match k,h with
  | 0,h=>
    obtain rfl:En.dead = e:=by simpa [G.at,ent] using h
    cases hl
  | k + 1,h=>simp [G.at,ent] at h
 refine ⟨rfl,fun t=>?_,fun k e h=>?_,fun k k' e e' b h1 h2 hl=>?_,fun b hb=>(hno b hb).elim,fun k h=>?_,fun k h=>?_,hs.zlt,hsat.chg.mono fun b hb _=>(own_none _ b hb).elim,rfl⟩
 ·cases t with
  | zero=>
    have h:=hsat.sl 0
    simp only [nth] at h ⊢
    have hw:∀ b,Free (⟨X.w0,Own X.ν0 (ent []),X.ν0,ent [],X.Z⟩:Cx) ν' (G.at ⟨[res],[]⟩) b → b < w'.heap.size → Free X X.ν0 (G.at ⟨[res],[some .dead]⟩) b ∧ w'.heap[b]? = w'.heap[b]?:=fun b hb _=>⟨⟨hno b,hb.2⟩,rfl⟩
    exact RepPV.lt0 hw _ _ hres h
  | succ t=>exact trivial
 ·match k,h with
  | 0,h=>
    obtain rfl:En.dead = e:=by simpa [G.at,ent] using h
    exact trivial
  | k + 1,h=>simp [G.at,ent] at h
 ·match k,h1 with
  | 0,h1=>
    obtain rfl:En.dead = e:=by simpa [G.at,ent] using h1
    cases hl
  | k + 1,h1=>simp [G.at,ent] at h1
 ·match k,h with
  | 0,_=>exact hs.nu 0 rfl
  | k + 1,h=>simp [G.at,ent] at h
 ·rw [hst] at h
  match k,h with
  | 0,_=>exact ⟨rfl,rfl⟩
  | k + 1,h=>simp [ent] at h
end
end Go.Eng
namespace Go.Eng
open Go.RowKit
section
variable {E:Env} {g:G} {d:Nat} {ty:TypeId} {pos:String} {aft:Array Edge} {gd:Option (Nat × Bool)}
theorem run_eqIn_nil {P:Program} (w:World) (n:Nat) (t e:TypeId) (a:Option Addr) (l c:Nat) (h:P.underlying t = some (.slice e)):(Op.equalIn (n + 1) t (.slice a l c) (.slice none 0 0)).run P w = .ok a.isNone w:=by
 cases a <;> simp [Op.equalIn,run_underlying h]
theorem run_eq_nil {P:Program} (w:World) (t e:TypeId) (a:Option Addr) (l c:Nat) (h:P.underlying t = some (.slice e)):(Op.equal t (.slice a l c) (.slice none 0 0)).run P w = .ok a.isNone w:=run_eqIn_nil w 9999 t e a l c h
theorem st_eqnil (x:Operand) (t e u:TypeId) (ti:TI) (b:Bool) (ht:E.ti t = some ti) (hty:ti.ty = .slice e) (hp:∀ (w:World) (ok:Nat → Prop) (ν:Nat → Nm) (st:Nat → Option En) (v:Value),RepPV w ok ν st (g.ev x) v → ∃ a n c,v = .slice a n c ∧ a.isNone = b) :
 StS E.P ⟨some d,.binOp .eql t x (.const (.slice none 0 0)) u,ty,pos,aft,gd⟩ g ⟨sls x,[]⟩ ⟨some (d,.d (.val (.bool b))),[]⟩:=by
 intro g2 hg
 have h1:=hg.ev (x:=x) (fun t h=>h)
 refine OpT.val rfl fun X ν a w hs=>?_
 have hv:=hs.ev x
 rw [h1] at hv
 obtain ⟨ad,n,c,hva,hb⟩:=hp _ _ _ _ _ hv
 have h:=(E.ok t ti ht).ty
 rw [hty] at h
 refine ⟨.bool b,?_,rep_mk rfl⟩
 have he:a.eval (.const (.slice none 0 0)) = .slice none 0 0:=rfl
 simp [execOp,hva,he,eqGuard,binOp,run_eq_nil w t e ad n c h,hb]
theorem eqnil_nil:∀ (w:World) (ok:Nat → Prop) (ν:Nat → Nm) (st:Nat → Option En) (v:Value),RepPV w ok ν st .nilS v → ∃ a n c,v = .slice a n c ∧ a.isNone = true:=by
 intro w ok ν st v h
 simp only [RepPV] at h
 exact ⟨_,_,_,h,rfl⟩
theorem eqnil_val (ad:Addr) (n c:Nat):∀ (w:World) (ok:Nat → Prop) (ν:Nat → Nm) (st:Nat → Option En) (v:Value),RepPV w ok ν st (.d (.val (.slice (some ad) n c))) v → ∃ a n c,v = .slice a n c ∧ a.isNone = false:=by
 intro w ok ν st v h
 exact ⟨_,_,_,rep_val h,rfl⟩
theorem eqnil_lst {x:List D} {xs:List (List D)}:∀ (w:World) (ok:Nat → Prop) (ν:Nat → Nm) (st:Nat → Option En) (v:Value),RepPV w ok ν st (.d (.lst (x :: xs))) v → ∃ a n c,v = .slice a n c ∧ a.isNone = false:=by
 intro w ok ν st v h
 simp only [RepPV] at h
 cases h with
 | lst=>exact ⟨_,_,_,rfl,rfl⟩
theorem atNil {m:Option (List Ky)} {gs:Option Nat} {rest:Tok → Option (List Ky) → G → Prop} {x:Operand} {t u:TypeId} (e:TypeId) (ti:TI) (b:Bool) (ht:E.ti t = some ti) (hty:ti.ty = .slice e) {p:PV} (hx:g.ev x = p) (hp:∀ (w:World) (ok:Nat → Prop) (ν:Nat → Nm) (st:Nat → Option En) (v:Value),RepPV w ok ν st p v → ∃ a n c,v = .slice a n c ∧ a.isNone = b)
 (hr:rest .on (snocO m (mkKy (addG gs ⟨sls x,[]⟩) ⟨some (d,.d (.val (.bool b))),[]⟩)) (g.app ⟨some (d,.d (.val (.bool b))),[]⟩)):atOp E m gs ⟨some d,.binOp .eql t x (.const (.slice none 0 0)) u,ty,pos,aft,gd⟩ g rest:=
 atOp_by (st_eqnil x t e u ti b ht hty (by rw [hx]; exact hp)) hr
end
theorem C_split {P:Program} {f:FuncId} {R:PV → List (Option En) → Prop} (h1:C P f [.nilS] [] R) (h2:∀ a c,C P f [.d (.val (.slice (some a) 0 c))] [] R):C P f [.d (.lst [])] [] R:=by
 refine ⟨h1.1,fun X vs hst hO hs=>?_⟩
 have hsz:=hs.size
 obtain ⟨v,rfl⟩:=List.length_eq_one_iff.1 (show vs.length = 1 by simpa using hsz)
 have h0:=hs.sl 0
 have h0:RepD X.w0 (Free X X.ν0 (G.at ⟨[.d (.lst [])],[]⟩)) (.lst []) v:=h0
 have key:∀ p:PV,RepPV X.w0 (Free X X.ν0 (G.at ⟨[p],[]⟩)) X.ν0 (G.at ⟨[p],[]⟩) p v → Sat P X X.ν0 ⟨[p],[]⟩ ⟨⟨[v]⟩,[]⟩ X.w0:=fun p hp=>
  ⟨rfl,fun t=>by
   match t with
   | 0=>exact hp
   | t + 1=>simp only [nth,RepPV],hs.en,hs.inj,hs.base,hs.nu,hs.par,hs.zlt,hs.chg,rfl⟩
 cases h0 with
 | nil=>exact h1.2 X _ hst hO (key .nilS rfl)
 | emp a c h=>exact (h2 a c).2 X _ hst hO (key _ (rep_mk rfl))
 | lst _ us b off cap sz hok hb hcap hmax hB hlu hxx hu hc hrr=>exact (h2 _ cap).2 X _ hst hO (key _ (rep_mk rfl))
end Go.Eng
namespace Go.Eng
open Go.RowKit
theorem zeroCells_flat (z:Array Value) (hz:0 < z.toList.length) (n:Nat):(Builtin.zeroCells z n).toList = (List.replicate n z.toList).flatten:=flat_made z.toList hz n
theorem run_clear_none {P:Program} (w:World) (t e ty:TypeId) (ht:P.underlying t = some (.slice e)) (a:Option Addr) (c:Nat):(Builtin.clear_ #[t] ty #[.slice a 0 c]).run P w = .ok (.tuple #[]) w:=by
 cases a <;> simp [Builtin.clear_,run_underlying ht]
theorem run_clear_row {P:Program} (w:World) (t e ty:TypeId) (z:Value) (ht:P.underlying t = some (.slice e)) (hv:(zeroValue e).run P w = .ok z w) (b o n c:Nat) (hn:n ≠ 0) (hz:0 < z.cells.toList.length)
 (cur:Array Value) (T:TypeId) (hg:w.heap[b]? = some (.cells cur T (0,0))) (hl:o + (List.replicate n z.cells.toList).flatten.length ≤ cur.size) (h1:∀ v ∈ (List.replicate n z.cells.toList).flatten,v.oneCell' = true) :
 (Builtin.clear_ #[t] ty #[.slice (some ⟨b,o,none⟩) n c]).run P w = .ok (.tuple #[]) (w.setRow b (cur.toList.take o ++ (List.replicate n z.cells.toList).flatten ++ cur.toList.drop (o + (List.replicate n z.cells.toList).flatten.length)).toArray):=by
 have hst:=run_storeCells_at (P:=P) b o T (List.replicate n z.cells.toList).flatten 0 cur w hg (by omega) h1
 simp only [Nat.add_zero] at hst
 obtain ⟨m,rfl⟩:∃ m,n = m + 1:=⟨n - 1,by omega⟩
 rw [← zeroCells_flat z.cells hz] at hst ⊢
 simp [Builtin.clear_,run_underlying ht,hv,hst]
section
variable {E:Env} {X:Cx} {ν:Nat → Nm} {g:G} {a:Act} {w:World}
def clr (z:List D) (xs:List (List D)) (m:Nat):List (List D):=xs.take m ++ List.replicate (xs.length - m) z
theorem clr_step {t e k m dd:Nat} {ty:TypeId} {pos:String} {aft:Array Edge} {gd:Option (Nat × Bool)} {xs:List (List D)} {z:List D} {ti ei:TI} (ht:E.ti t = some ti) (hty:ti.ty = .slice e) (he:E.ti e = some ei) (hz:toDs ei.zero = some z)
 (hk:g.at k = some (.acc e xs)) (hm:m ≤ xs.length) (n c:Nat) (a0:Option Addr) (hν:(ν k).v = .slice a0 n c) (hv:a.eval (.tmp dd) = sliced a0 m n c ei.n)
 (hs:Sat E.P X ν g a w) (next:Act → World → Prop) (Q:Exit → Act → World → Prop) (hn:∀ ν' a' w',Sat E.P X ν' ⟨g.sl,setE g.st k (some (.acc e (clr z xs m)))⟩ a' w' → next a' w') :
 (⟨none,.call ⟨.builtin .clear,#[.tmp dd],#[t]⟩,ty,pos,aft,gd⟩:Oper).wp E.P a w next Q:=by
 have hu:=(E.ok t ti ht).ty
 rw [hty] at hu
 obtain ⟨i,zv,i1,i2,i3,i4,i5,i6⟩:=(E.ok e ei he).info
 have hpos:=(E.ok e ei he).pos
 have hzl:zv.cells.toList.length = ei.n:=by simpa using i6
 have hzv:(zeroValue e).run E.P w = .ok zv w:=by simp [zeroValue,typeInfo,i1,i4]
 obtain ⟨us,ho,hrr,hB,hf0⟩:=hs.en k _ hk
 rw [(E.ok e ei he).cells] at hrr ho
 have hul:us.length = xs.length:=hrr.len
 have hfl:=hrr.flat_len
 have key:∀ (w':World) (us':List (List Value)),(execOp a.eval ⟨none,.call ⟨.builtin .clear,#[.tmp dd],#[t]⟩,ty,pos,aft,gd⟩).run E.P w = .ok (.value (.tuple #[])) w' → Chg (fun b=>(ν k).has b) w w' →
  (w'.ownsRow 0 e ei.n (ν k).v (clr z xs m).length us'.flatten) → RepRows w (Free X ν g.at) ei.n (clr z xs m) us' →
  (⟨none,.call ⟨.builtin .clear,#[.tmp dd],#[t]⟩,ty,pos,aft,gd⟩:Oper).wp E.P a w next Q:=by
  intro w' us' hr hchg hrow hrep
  unfold Oper.wp
  rw [hr,Oper.upon_value]
  refine hn _ _ _ (hs.setent k (.acc e xs) (.acc e (clr z xs m)) hk rfl hchg none .undef Go.undef ?_ (fun h=>by cases h))
  intro hwf _
  refine ⟨us',?_,?_,by simp [clr]; omega,hf0⟩
  ·rw [(E.ok e ei he).cells]
   exact hrow
  ·rw [(E.ok e ei he).cells]
   exact hrep.frame hwf hchg.size
 have hex:∀ (v:Value) (w':World),(Builtin.clear_ #[t] ty #[a.eval (.tmp dd)]).run E.P w = .ok v w' → (execOp a.eval ⟨none,.call ⟨.builtin .clear,#[.tmp dd],#[t]⟩,ty,pos,aft,gd⟩).run E.P w = .ok (.value v) w':=by
  intro v w' h
  unfold execOp
  simp only [resolve,invoke,builtin,Sem.run_bind,Sem.run_pure,Result.andThen_ok,List.map_toArray,List.map_cons,List.map_nil,h]
 rcases ho.2 with ⟨h1,h2⟩ | ⟨b,cap,cur,h1,_,h2,h4,h5,h6,h7⟩
 ·rw [h1] at hν
  obtain ⟨rfl,rfl,rfl⟩:none = a0 ∧ 0 = n ∧ 0 = c:=by simpa using hν
  have hm0:m = 0:=by omega
  subst hm0
  have hxs:xs = []:=List.eq_nil_of_length_eq_zero h2
  subst hxs
  refine key w us (hex _ _ ?_) (Chg.refl _ w) ?_ ?_
  ·rw [hv]
   exact run_clear_none w t e ty hu _ _
  ·exact ho
  ·exact hrr
 ·rw [h1] at hν
  obtain ⟨rfl,rfl,rfl⟩:some ⟨b,0,none⟩ = a0 ∧ xs.length = n ∧ cap = c:=by simpa using hν
  by_cases hlt:m = xs.length
  ·refine key w us (hex _ _ ?_) (Chg.refl _ w) ?_ ?_
   ·rw [hv]
    unfold sliced
    rw [hlt,Nat.sub_self]
    exact run_clear_none w t e ty hu _ _
   ·simpa [clr,hlt] using ho
   ·simpa [clr,hlt] using hrr
  ·have hzr:RepPVs w (Free X ν g.at) ν g.at (pvs z) zv.cells.toList:=toDs_rep (rep_cpvs _ _ _ _ zv.cells.toList) (by rw [i5]; exact hz)
   obtain ⟨hz1,hz2⟩:=pvs_rep hzr
   have hrep0:RepRows w (Free X ν g.at) ei.n (List.replicate (xs.length - m) z) (List.replicate (xs.length - m) zv.cells.toList):=RepRows.replicate _ (by rw [← hz1]; exact hzl) hzl hz2
   have hrep:RepRows w (Free X ν g.at) ei.n (clr z xs m) (us.take m ++ List.replicate (xs.length - m) zv.cells.toList):=by
    have:=hrr.cut 0 m
    simp only [List.drop_zero] at this
    exact this.append hrep0
   have hmul:m * ei.n ≤ xs.length * ei.n:=Nat.mul_le_mul_right _ hm
   have hZ:(List.replicate (xs.length - m) zv.cells.toList).flatten.length = (xs.length - m) * ei.n:=hrep0.flat_len.trans (by simp)
   have hsum:m * ei.n + (xs.length - m) * ei.n = xs.length * ei.n:=by rw [← Nat.add_mul]; congr 1; omega
   have hcap:xs.length * ei.n ≤ cap * ei.n:=Nat.mul_le_mul_right _ h4
   have hrun:=run_clear_row (P:=E.P) w t e ty zv hu hzv b (m * ei.n) (xs.length - m) (cap - m) (by omega) (by omega) cur e h2 (by rw [hZ,hsum,h6]; exact hcap) hrep0.one
   have hval:a.eval (.tmp dd) = .slice (some ⟨b,m * ei.n,none⟩) (xs.length - m) (cap - m):=by
    rw [hv]
    unfold sliced
    rw [if_neg (by omega),Option.map_some,add_lit,Nat.zero_add]
   refine key _ _ (hex _ _ (by rw [hval]; exact hrun)) (chg_setRow w b _ _ ((has_nil hf0).2 (by rw [h1]; rfl))) ?_ hrep
   have htake:cur.toList.take (m * ei.n) = (us.take m).flatten:=by
    have:=flat_cut us 0 m hrr.hu (by omega)
    simp only [List.drop_zero,Nat.zero_mul] at this
    rw [this,← h7,List.take_take,Nat.min_eq_left hmul]
   have hnew:cur.toList.take (m * ei.n) ++ (List.replicate (xs.length - m) zv.cells.toList).flatten = (us.take m ++ List.replicate (xs.length - m) zv.cells.toList).flatten:=by rw [htake,List.flatten_append]
   have hnl:(us.take m ++ List.replicate (xs.length - m) zv.cells.toList).flatten.length = (clr z xs m).length * ei.n:=hrep.flat_len
   have hcl:(clr z xs m).length = xs.length:=by simp [clr]; omega
   rw [h1]
   refine ⟨hnl,.inr ⟨b,cap,_,by rw [hcl],Nat.zero_le _,setRow_heap w b _ _ e _ h2,by rw [hcl]; exact h4,h5,?_,?_⟩⟩
   ·rw [hnew]
    simp only [List.size_toArray,List.length_append,hnl,hcl,List.length_drop,Array.length_toList,h6,hZ,hsum]
    omega
   ·rw [hnew,hcl]
    simp only
    rw [List.take_append_of_le_length (by rw [hnl,hcl]; exact Nat.le_refl _),List.take_of_length_le (by rw [hnl,hcl]; exact Nat.le_refl _)]
end
theorem clr_take (z:List D) (xs:List (List D)) (m:Nat) (h:m ≤ xs.length):(clr z xs m).take m = xs.take m:=by
 have e:(xs.take m).length = m:=by simp; omega
 rw [clr,List.take_append_of_le_length (by omega),List.take_of_length_le (by omega)]
theorem clr_len (z:List D) (xs:List (List D)) (m:Nat) (h:m ≤ xs.length):(clr z xs m).length = xs.length:=by simp [clr]; omega
theorem WO_two {P:Program} {ops:Array Oper} {o1 o2:Oper} {os:List Oper} {g g':G} {K:G → Prop} (hg1:o1.guard = none) (hg2:o2.guard = none)
 (h:∀ (X:Cx) (ν:Nat → Nm) (a:Act) (w:World) (next next1:Act → World → Prop) (Q:Exit → Act → World → Prop),Sat P X ν g a w → (∀ ν' a' w',Sat P X ν' g' a' w' → next a' w') → (∀ a1 w1,o2.wp P a1 w1 next Q → next1 a1 w1) → o1.wp P a w next1 Q)
 (hr:WO P ops os g' K):WO P ops (o1 :: o2 :: os) g K:=by
 intro i hi X ν a w Q hs hn
 have ho1:ops[i]? = some o1:=hi 0 o1 rfl
 have ho2:ops[i + 1]? = some o2:=hi 1 o2 rfl
 simp only [List.length_cons,List.range'_succ,wpOps,ho1]
 have hrest:=hr (i + 2) (fun j o' hj=>by have:=hi (j + 2) o' (by simpa using hj); rw [show i + 2 + j = i + (j + 2) from by omega]; exact this)
 rw [if_pos (by simp [Region.wanted,hg1])]
 refine .inl (h X ν a w (wpOps P ops Q (List.range' (i + 2) os.length)) _ Q hs (fun ν' a' w' hs'=>hrest X ν' a' w' Q hs' hn) fun a1 w1 h2=>?_)
 simp only [ho2]
 rw [if_pos (by simp [Region.wanted,hg2])]
 exact .inl h2
section
variable {E:Env} {g:G} {n0:Nat}
theorem WO_clr {ops:Array Oper} {os:List Oper} {K:G → Prop} {x lo:Operand} {t e k d:Nat} {m:Int} {ty ty2:TypeId} {pos pos2:String} {aft aft2:Array Edge} {xs:List (List D)} (z:List D) (ti ei:TI) (ht:E.ti t = some ti) (hty:ti.ty = .slice e) (he:E.ti e = some ei) (hz:toDs ei.zero = some z)
 (hx:g.ev x = .acc k) (hlo:g.ev lo = .d (.val (.int .i64 m))) (hk:g.at k = some (.acc e xs)) (h0:0 ≤ m) (hm:m ≤ xs.length) (hd:d < g.sl.length)
 (hr:WO E.P ops os ⟨setN g.sl d .any,setE g.st k (some (.acc e (clr z xs m.toNat)))⟩ K) :
 WO E.P ops (⟨some d,.slice t x (some lo) none none,ty,pos,aft,none⟩ :: ⟨none,.call ⟨.builtin .clear,#[.tmp d],#[t]⟩,ty2,pos2,aft2,none⟩ :: os) g K:=by
 refine WO_two rfl rfl (fun X ν a w next next1 Q hs hn h2=>?_) hr
 have hu:=(E.ok t ti ht).ty
 rw [hty] at hu
 have hv:=hs.ev x
 rw [hx] at hv
 have hv2:=hs.ev lo
 rw [hlo] at hv2
 have hv2:=rep_val hv2
 simp only [RepPV] at hv
 have hsize:=(E.ok e ei he).size
 have hs1:=hs.put d (p:=.any) (v:=Go.undef) trivial
 obtain ⟨us,ho,hrr,hB,hf0⟩:=hs.en k _ hk
 have hrun:∃ n c a0,(ν k).v = .slice a0 n c ∧ (execOp a.eval ⟨some d,.slice t x (some lo) none none,ty,pos,aft,none⟩).run E.P w = .ok (.value (sliced a0 m.toNat n c ei.n)) w:=by
  rcases ho.2 with ⟨h1,h2⟩ | ⟨b,cap,cur,h1,_,_,h4,_⟩
  ·refine ⟨0,0,none,h1,?_⟩
   have hr:=run_cut (P:=E.P) w hu hsize none 0 0 (some (.int .i64 m)) none m ((0:Nat):Int) (.inr ⟨_,rfl⟩) (.inl ⟨rfl,rfl⟩) h0 (by omega) (Int.le_refl _) (Nat.le_refl _)
   simp only [execOp,hv.2,h1,hv2,Option.map_none,Option.map_some,Sem.run_bind,hr,Result.andThen_ok]
   rfl
  ·refine ⟨xs.length,cap,some ⟨b,0,none⟩,h1,?_⟩
   have hr:=run_cut (P:=E.P) w hu hsize (some ⟨b,0,none⟩) xs.length cap (some (.int .i64 m)) none m (xs.length:Int) (.inr ⟨_,rfl⟩) (.inl ⟨rfl,rfl⟩) h0 (by omega) (Int.le_refl _) h4
   simp only [Int.toNat_natCast] at hr
   simp only [execOp,hv.2,h1,hv2,Option.map_none,Option.map_some,Sem.run_bind,hr,Result.andThen_ok]
   rfl
 obtain ⟨n,c,a0,hν,hr⟩:=hrun
 unfold Oper.wp
 rw [hr,Oper.upon_value]
 refine h2 _ _ ?_
 have hs2:=hs.put d (p:=.any) (v:=sliced a0 m.toNat n c ei.n) trivial
 refine clr_step (g:=⟨setN g.sl d .any,g.st⟩) ht hty he hz hk (by omega) n c a0 hν ?_ hs2 next Q hn
 show (a.put (some d) _).tmps.getD d Go.undef = _
 rw [getD_put,if_pos ⟨rfl,by rw [hs.size]; exact hd⟩]
theorem st_head (x hi:Operand) (t e k:Nat) {d:Nat} {ty:TypeId} {pos:String} {aft:Array Edge} {gd:Option (Nat × Bool)} (ti ei:TI) (xs:List (List D)) (h:Int) (ht:E.ti t = some ti) (hty:ti.ty = .slice e) (he:E.ti e = some ei)
 (hx:g.ev x = .acc k) (hk:g.at k = some (.acc e xs)) (hhi:g.ev hi = .d (.val (.int .i64 h))) (h0:0 ≤ h) (h1:h ≤ xs.length) :
 StS E.P ⟨some d,.slice t x none (some hi) none,ty,pos,aft,gd⟩ g ⟨sls x ++ sls hi,[k]⟩ ⟨some (d,.d (.lst (xs.take h.toNat))),[(k,.dead)]⟩:=by
 intro g2 hg
 have e1:=hg.ev (x:=x) (fun t h=>by simp [h])
 have e2:=hg.ev (x:=hi) (fun t h=>by simp [h])
 have h3:=(hg.p k (by simp)).trans hk
 intro X ν a w next Q hs hn
 have hu:=(E.ok t ti ht).ty
 rw [hty] at hu
 have hv:=hs.ev x
 rw [e1,hx] at hv
 have hv2:=hs.ev hi
 rw [e2,hhi] at hv2
 have hv2:=rep_val hv2
 simp only [RepPV] at hv
 have hsize:=(E.ok e ei he).size
 obtain ⟨hn',rfl⟩:∃ n:Nat,h = n:=⟨h.toNat,by omega⟩
 simp only [Int.toNat_natCast] at hn ⊢
 obtain ⟨us,ho,hrr,hB,hf0⟩:=hs.en k _ h3
 have hat:∀ j,(g2.app ⟨some (d,.d (.lst (xs.take hn'))),[(k,.dead)]⟩).at j = if j = k then some .dead else g2.at j:=fun j=>ent_setE g2.st k (some .dead) j
 have hlive:∀ j e1,(g2.app ⟨some (d,.d (.lst (xs.take hn'))),[(k,.dead)]⟩).at j = some e1 → e1.live = true → j ≠ k ∧ g2.at j = some e1:=by
  intro j e1 h1 h2
  rw [hat] at h1
  by_cases hj:j = k
  ·rw [if_pos hj] at h1
   cases h1; cases h2
  ·rw [if_neg hj] at h1
   exact ⟨hj,h1⟩
 have hown:∀ b,Own ν (g2.app ⟨some (d,.d (.lst (xs.take hn'))),[(k,.dead)]⟩).at b → Own ν g2.at b:=by
  rintro b ⟨j,e1,h1,h2,h3⟩
  exact ⟨j,e1,(hlive j e1 h1 h2).2,h2,h3⟩
 have hw:∀ b,Free X ν g2.at b → b < w.heap.size → Free X ν (g2.app ⟨some (d,.d (.lst (xs.take hn'))),[(k,.dead)]⟩).at b ∧ w.heap[b]? = w.heap[b]?:=fun b hb _=>⟨⟨fun ho=>hb.1 (hown b ho),hb.2⟩,rfl⟩
 have hrun:∃ v,(execOp a.eval ⟨some d,.slice t x none (some hi) none,ty,pos,aft,gd⟩).run E.P w = .ok (.value v) w ∧ RepD w (Free X ν (g2.app ⟨some (d,.d (.lst (xs.take hn'))),[(k,.dead)]⟩).at) (.lst (xs.take hn')) v:=by
  rcases ho.2 with ⟨k1,k2⟩ | ⟨b,cap,cur,k1,_,k2,k4,k5,k6,k7⟩
  ·have hr:=run_cut (P:=E.P) w hu hsize none 0 0 none (some (.int .i64 (hn':Int))) 0 (hn':Int) (.inl ⟨rfl,rfl⟩) (.inr ⟨_,rfl⟩) (Int.le_refl _) h0 (by omega) (Nat.le_refl _)
   obtain rfl:hn' = 0:=by omega
   refine ⟨.slice none 0 0,?_,by simp; exact .nil⟩
   simp only [execOp,hv.2,k1,hv2,Option.map_none,Option.map_some,Sem.run_bind,hr,Result.andThen_ok]
   rfl
  ·have hr:=run_cut (P:=E.P) w hu hsize (some ⟨b,0,none⟩) xs.length cap none (some (.int .i64 (hn':Int))) 0 (hn':Int) (.inl ⟨rfl,rfl⟩) (.inr ⟨_,rfl⟩) (Int.le_refl _) h0 (by omega) k4
   simp only [Int.toNat_natCast] at hr
   refine ⟨.slice (some ⟨b,0,none⟩) hn' cap,?_,?_⟩
   ·simp only [execOp,hv.2,k1,hv2,Option.map_none,Option.map_some,Sem.run_bind,hr,Result.andThen_ok]
    unfold sliced
    simp [add_lit]
   ·have hrr':=(hrr.frame hw (Nat.le_refl _)).cut 0 hn'
    simp only [List.drop_zero] at hrr'
    have hlen:(xs.take hn').length = hn':=by simp; omega
    have hcl:=flat_cut us 0 hn' hrr.hu (by rw [hrr.len]; omega)
    simp only [List.drop_zero,Nat.zero_mul] at hcl
    have hokb:Free X ν (g2.app ⟨some (d,.d (.lst (xs.take hn'))),[(k,.dead)]⟩).at b:=by
     refine ⟨?_,hs.notZ ⟨k,_,h3,rfl,.inl (by rw [k1]; rfl)⟩⟩
     rintro ⟨j,e1,m1,m2,m3⟩
     obtain ⟨m4,m5⟩:=hlive j e1 m1 m2
     exact m4 (hs.inj j k e1 _ b m5 h3 m2 rfl m3 (.inl (by rw [k1]; rfl)))
    have hres:=RepD.lst (w:=w) (ok:=Free X ν (g2.app ⟨some (d,.d (.lst (xs.take hn'))),[(k,.dead)]⟩).at) (xs.take hn') (us.take hn') b 0 cap (E.P.cellsOf e) hokb (heap_lt k2) (by rw [hlen]; omega) k5 (by rw [hlen]; omega) hrr'.len hrr'.hx hrr'.hu (fun j u hj=>?_) hrr'.hr
    ·rw [hlen] at hres
     exact hres
    ·rw [hcl,← k7,List.take_take] at hj
     have hj':cur.toList[j]? = some u:=by
      rw [List.getElem?_take] at hj
      split at hj
      ·exact hj
      ·cases hj
     have hj2:cur[j]? = some u:=by simpa using hj'
     simp [World.cell?,k2,hj2]
 obtain ⟨v,hr,hrep⟩:=hrun
 unfold Oper.wp
 rw [hr,Oper.upon_value]
 refine hn ν _ _ (hs.upd (g':=g2.app ⟨some (d,.d (.lst (xs.take hn'))),[(k,.dead)]⟩) (fun _=>False) (Chg.refl _ w) (fun _ hb=>hb.elim) ?_ ?_ ?_ ?_ ?_ ?_ ?_ rfl)
 ·intro j hj
  refine ⟨rfl,?_⟩
  rw [hat]
  split
  ·rfl
  ·exact hj
 ·intro j e1 hj
  rw [hat] at hj
  by_cases hjk:j = k
  ·rw [if_pos hjk] at hj
   cases hj
   exact .inr trivial
  ·rw [if_neg hjk] at hj
   exact .inl ⟨hj,rfl,fun _ _ _ hb=>hb⟩
 ·intro j e1 b m1 m2 m3
  exact .inl ⟨j,e1,(hlive j e1 m1 m2).2,m2,m3⟩
 ·intro j j' e1 e2 b m1 m2 m3 m4 m5 m6
  exact hs.inj j j' e1 e2 b (hlive j e1 m1 m3).2 (hlive j' e2 m2 m4).2 m3 m4 m5 m6
 ·intro j hj
  rw [hat] at hj
  by_cases hjk:j = k
  ·exact .inl (by rw [hjk,h3]; rfl)
  ·rw [if_neg hjk] at hj
   exact .inl hj
 ·simp [G.app,setD,size_put,length_setN,hs.size]
 ·intro t
  simp only [G.app,setD,getD_put,nth_setN,hs.size]
  by_cases hc:t = d ∧ d < g2.sl.length
  ·simp only [hc,and_self,if_true]
   refine .inr ?_
   simp only [RepPV]
   exact hrep
  ·simp only [hc,if_false]
   exact .inl ⟨trivial,trivial⟩
def onQ (Q:Ex → G → Prop):Tok → Ex → G → Prop
 | .on=>Q
 | .off=>fun _ _=>False
theorem onQ_on (Q:Ex → G → Prop) (e:Ex) (g:G):onQ Q .on e g = Q e g:=rfl
theorem W_of (hm:E.P.follows .mixedOrders = true) {c:Code} {Q:Ex → G → Prop} (h:wpc E n0 c .on g (onQ Q)):W E.P n0 c g Q:=wpc_ok hm c g _ h
theorem thenQ_n (K:G → Prop) (Q:Ex → G → Prop) (g:G):thenQ K Q .normal g = K g:=rfl
theorem thenQ_e (K:G → Prop) (Q:Ex → G → Prop) (i:Nat) (g:G):thenQ K Q (.exit i) g = Q (.exit i) g:=rfl
theorem thenQ_r (K:G → Prop) (Q:Ex → G → Prop) (g:G):thenQ K Q .ret g = Q .ret g:=rfl
theorem weak_give {P:Program} (t k e:Nat) (xs:List (List D)) (ht:nth g.sl t = .acc k) (hk:g.at k = some (.acc e xs)):Weak P n0 g ⟨setN g.sl t (.d (.lst xs)),setE g.st k (some .dead)⟩:=by
 intro X ν a w _ hs
 refine ⟨ν,?_⟩
 obtain ⟨us,ho,hrr,hB,hf0⟩:=hs.en k _ hk
 have hat:∀ j,(⟨setN g.sl t (.d (.lst xs)),setE g.st k (some .dead)⟩:G).at j = if j = k then some .dead else g.at j:=fun j=>ent_setE g.st k (some .dead) j
 have hlive:∀ j e1,(⟨setN g.sl t (.d (.lst xs)),setE g.st k (some .dead)⟩:G).at j = some e1 → e1.live = true → j ≠ k ∧ g.at j = some e1:=by
  intro j e1 h1 h2
  rw [hat] at h1
  by_cases hj:j = k
  ·rw [if_pos hj] at h1
   cases h1; cases h2
  ·rw [if_neg hj] at h1
   exact ⟨hj,h1⟩
 have hown:∀ b,Own ν (⟨setN g.sl t (.d (.lst xs)),setE g.st k (some .dead)⟩:G).at b → Own ν g.at b:=by
  rintro b ⟨j,e1,h1,h2,h3⟩
  exact ⟨j,e1,(hlive j e1 h1 h2).2,h2,h3⟩
 have hw:∀ b,Free X ν g.at b → b < w.heap.size → Free X ν (⟨setN g.sl t (.d (.lst xs)),setE g.st k (some .dead)⟩:G).at b ∧ w.heap[b]? = w.heap[b]?:=fun b hb _=>⟨⟨fun ho=>hb.1 (hown b ho),hb.2⟩,rfl⟩
 have hrep:RepD w (Free X ν (⟨setN g.sl t (.d (.lst xs)),setE g.st k (some .dead)⟩:G).at) (.lst xs) (ν k).v:=by
  refine acc_data ho hrr hB (fun b hb=>⟨?_,hs.notZ ⟨k,_,hk,rfl,.inl hb⟩⟩) hw
  rintro ⟨j,e1,m1,m2,m3⟩
  obtain ⟨m4,m5⟩:=hlive j e1 m1 m2
  exact m4 (hs.inj j k e1 _ b m5 hk m2 rfl m3 (.inl hb))
 refine hs.upd (g':=⟨setN g.sl t (.d (.lst xs)),setE g.st k (some .dead)⟩) (fun _=>False) (Chg.refl _ w) (fun _ hb=>hb.elim) ?_ ?_ ?_ ?_ ?_ ?_ ?_ rfl
 ·intro j hj
  refine ⟨rfl,?_⟩
  rw [hat]
  split
  ·rfl
  ·exact hj
 ·intro j e1 hj
  rw [hat] at hj
  by_cases hjk:j = k
  ·rw [if_pos hjk] at hj
   cases hj
   exact .inr trivial
  ·rw [if_neg hjk] at hj
   exact .inl ⟨hj,rfl,fun _ _ _ hb=>hb⟩
 ·intro j e1 b m1 m2 m3
  exact .inl ⟨j,e1,(hlive j e1 m1 m2).2,m2,m3⟩
 ·intro j j' e1 e2 b m1 m2 m3 m4 m5 m6
  exact hs.inj j j' e1 e2 b (hlive j e1 m1 m3).2 (hlive j' e2 m2 m4).2 m3 m4 m5 m6
 ·intro j hj
  rw [hat] at hj
  by_cases hjk:j = k
  ·exact .inl (by rw [hjk,hk]; rfl)
  ·rw [if_neg hjk] at hj
   exact .inl hj
 ·simp [length_setN,hs.size]
 ·intro j
  simp only [nth_setN]
  by_cases hc:j = t ∧ t < g.sl.length
  ·simp only [hc,and_self,if_true]
   refine .inr ?_
   have:=hs.sl t
   rw [ht] at this
   simp only [RepPV] at this ⊢
   rw [this.2]
   exact hrep
  ·simp only [hc,if_false]
   exact .inl ⟨trivial,trivial⟩
def FinW (E:Env) (rs:List ResultVar) (n0:Nat) (R:PV → List (Option En) → Prop) (g:G):Prop:=∃ g',Weak E.P n0 g g' ∧ FinD E rs n0 R g'
theorem FinW_of {rs:List ResultVar} {R:PV → List (Option En) → Prop} (h:FinD E rs n0 R g):FinW E rs n0 R g:=⟨g,Weak.refl g,h⟩
theorem C_goW {f : FuncId} {fn : Func} {c : Code} {args : List PV} {cst : List (Option En)} {R : PV → List (Option En) → Prop} {nt : Nat} {rs : List ResultVar} (hf : E.P.funcs[f]? = some fn) (hb : fn.body = some c) (hname : (fn.name == "runtime.NumGoroutine") = false)
 (hnt:fn.ntmps = nt) (hrs:fn.results.toList = rs) (hn:leN (lenP args) nt = true) (h:lrns args → lrnEs cst → W E.P (lenE cst) c ⟨mkS nt .undef (ixs 0 args),cst⟩ (endQ (FinW E rs (lenE cst) R))):C E.P f args cst R:=by
 have hn:=leN_le hn
 rw [lenP_eq] at hn
 rw [← pad_mkS hn,lenE_eq] at h
 refine C_of_end hf hb hname (FinW E rs cst.length R) (fun _ X ν a w ⟨_,hw,h1⟩ hp hs=>let ⟨_,hs'⟩:=hw X ν a w hp hs; FinD.sat h1 hp hs' hrs) ?_
 rw [hnt,← pad_eq]
 refine W_lrn fun h1 h2=>h ?_ h2
 have h1:lrns (pad args nt):=h1
 rw [pad_eq] at h1
 exact lrns_left h1
end
end Go.Eng
namespace Go.Eng
open Go.RowKit
def pairTy (P:Program) (t:TypeId):Bool:=
 match P.underlying t with
 | some (.struct ⟨[f, g]⟩) => (f.name != "_" && (g.name != "_" && (f.offset == 0 && (g.offset == 1 && ((match P.underlying f.type, P.underlying g.type with | some (.int _), some (.int _) => true | _, _ => false) && (!P.stoodInHeld t && !P.eqGuardType P.depth t))))))
 | _=>false
def eqPair (a b c e:Int):Bool:=a == c && b == e
theorem pairTy_iff {P : Program} {t : TypeId} (h : pairTy P t = true) : ∃ (f g : Field) (k l : IntKind), P.underlying t = some (.struct ⟨[f, g]⟩) ∧ f.name ≠ "_" ∧ g.name ≠ "_" ∧ f.offset = 0 ∧ g.offset = 1 ∧ P.underlying f.type = some (.int k) ∧ P.underlying g.type = some (.int l) ∧ P.stoodInHeld t = false ∧ P.eqGuardType P.depth t = false := by
 unfold pairTy at h
 split at h
 ·rename_i f g hu
  simp only [Bool.and_eq_true,bne_iff_ne,ne_eq,beq_iff_eq,Bool.not_eq_true'] at h
  obtain ⟨h1,h2,h3,h4,h5,h6,h7⟩:=h
  split at h5
  ·rename_i k l hk hl
   exact ⟨f,g,k,l,hu,h1,h2,h3,h4,hk,hl,h6,h7⟩
  ·cases h5
 ·cases h
theorem run_eq_pair {P:Program} (w:World) {t:TypeId} (h:pairTy P t = true) (a b c e:Int) :
 (Op.equalIn 10000 t (.agg ⟨[.int .i64 a,.int .i64 b]⟩) (.agg ⟨[.int .i64 c,.int .i64 e]⟩)).run P w = .ok (eqPair a b c e) w:=by
 obtain ⟨f,g,k,l,hu,n1,n2,o1,o2,hf,hg,hs,_⟩:=pairTy_iff h
 have hfs:P.fieldsOf t = ⟨[f,g]⟩:=by simp only [Program.fieldsOf,hu]
 rw [run_equalIn_struct w 9999 t _ _ (by rw [hfs]; exact hu) hs,hfs]
 have p1:P.plainKey f.type = true:=by simp [Program.plainKey,hf]
 have p2:P.plainKey g.type = true:=by simp [Program.plainKey,hg]
 have e1:=run_part_plain (P:=P) w p1 (xs:=⟨[.int .i64 a,.int .i64 b]⟩) (off:=f.offset) (v:=.int .i64 a) (by rw [o1]; rfl)
 have e2:=run_part_plain (P:=P) w p1 (xs:=⟨[.int .i64 c,.int .i64 e]⟩) (off:=f.offset) (v:=.int .i64 c) (by rw [o1]; rfl)
 have e3:=run_part_plain (P:=P) w p2 (xs:=⟨[.int .i64 a,.int .i64 b]⟩) (off:=g.offset) (v:=.int .i64 b) (by rw [o2]; rfl)
 have e4:=run_part_plain (P:=P) w p2 (xs:=⟨[.int .i64 c,.int .i64 e]⟩) (off:=g.offset) (v:=.int .i64 e) (by rw [o2]; rfl)
 have q1:(Op.equalIn 9999 f.type (.int .i64 a) (.int .i64 c)).run P w = .ok (a == c) w:=run_equalIn_int w 9998 f.type .i64 k a c hf
 have q2:(Op.equalIn 9999 g.type (.int .i64 b) (.int .i64 e)).run P w = .ok (b == e) w:=run_equalIn_int w 9998 g.type .i64 l b e hg
 simp only [Op.eqFields,n1,n2,ne_eq,not_false_eq_true,if_true,Sem.run_bind,Sem.run_ite,e1,e2,e3,e4,Result.andThen_ok,q1,q2,eqPair]
 cases a == c
 ·rfl
 ·simp only [Bool.not_true,Bool.false_eq_true,if_false,Bool.true_and,Sem.run_bind,Sem.run_ite,e3,e4,Result.andThen_ok,q2]
  cases b == e <;> rfl
section
variable {E:Env} {g:G} {d:Nat} {ty:TypeId} {pos:String} {aft:Array Edge} {gd:Option (Nat × Bool)}
theorem rep_pair {w:World} {ok:Nat → Prop} {ν:Nat → Nm} {st:Nat → Option En} {a b:Int} {v:Value} (h:RepPV w ok ν st (.agg [.d (.val (.int .i64 a)),.d (.val (.int .i64 b))]) v):v = .agg ⟨[.int .i64 a,.int .i64 b]⟩:=by
 simp only [RepPV] at h
 obtain ⟨vs,rfl,h⟩:=h
 match vs,h with
 | [v1,v2],h=>
   simp only [RepPVs,and_true] at h
   rw [rep_val h.1,rep_val h.2]
theorem st_eqpair (x y:Operand) (t u:TypeId) (a b c e:Int) (ht:pairTy E.P t = true) (hx:g.ev x = .agg [.d (.val (.int .i64 a)),.d (.val (.int .i64 b))]) (hy:g.ev y = .agg [.d (.val (.int .i64 c)),.d (.val (.int .i64 e))]) :
 StS E.P ⟨some d,.binOp .eql t x y u,ty,pos,aft,gd⟩ g ⟨sls x ++ sls y,[]⟩ ⟨some (d,.d (.val (.bool (eqPair a b c e)))),[]⟩:=by
 intro g2 hg
 have h1:=hg.ev (x:=x) (fun t h=>List.mem_append_left _ h)
 have h2:=hg.ev (x:=y) (fun t h=>List.mem_append_right _ h)
 refine OpT.val rfl fun X ν act w hs=>?_
 have hv:=hs.ev x
 have hv2:=hs.ev y
 rw [h1,hx] at hv
 rw [h2,hy] at hv2
 have q1:=rep_pair hv
 have q2:=rep_pair hv2
 obtain ⟨_,_,_,_,_,_,_,_,_,_,_,_,hm⟩:=pairTy_iff ht
 refine ⟨.bool (eqPair a b c e),?_,rep_mk rfl⟩
 simp [execOp,q1,q2,run_eqGuard_agg w .eql t x y _ _ hm,run_eql_struct,run_eq_pair w ht]
theorem atPair {m:Option (List Ky)} {gs:Option Nat} {rest:Tok → Option (List Ky) → G → Prop} {x y:Operand} {t u:TypeId} (ht:pairTy E.P t = true) {a b c e:Int} (hx:g.ev x = .agg [.d (.val (.int .i64 a)),.d (.val (.int .i64 b))]) (hy:g.ev y = .agg [.d (.val (.int .i64 c)),.d (.val (.int .i64 e))])
 (hr:rest .on (snocO m (mkKy (addG gs ⟨sls x ++ sls y,[]⟩) ⟨some (d,.d (.val (.bool (eqPair a b c e)))),[]⟩)) (g.app ⟨some (d,.d (.val (.bool (eqPair a b c e)))),[]⟩)):atOp E m gs ⟨some d,.binOp .eql t x y u,ty,pos,aft,gd⟩ g rest:=
 atOp_by (st_eqpair x y t u a b c e ht hx hy) hr
theorem st_max (x y:Operand) (m n:Int) (tys:Array TypeId) (hx:g.ev x = .d (.val (.int .i64 m))) (hy:g.ev y = .d (.val (.int .i64 n))) :
 StS E.P ⟨some d,.call ⟨.builtin .max,#[x,y],tys⟩,ty,pos,aft,gd⟩ g ⟨sls x ++ sls y,[]⟩ ⟨some (d,.d (.val (.int .i64 (if m < n then n else m)))),[]⟩:=
 st_val2 rfl hx hy rfl fun a w h1 h2=>by
  simp [execOp,resolve,invoke,builtin,Builtin.max_,Builtin.max2,h1,h2]
theorem atMax {m:Option (List Ky)} {gs:Option Nat} {rest:Tok → Option (List Ky) → G → Prop} {x y:Operand} {tys:Array TypeId} (a b c:Int) (hc:(if a < b then b else a) = c) (hx:g.ev x = .d (.val (.int .i64 a))) (hy:g.ev y = .d (.val (.int .i64 b)))
 (hr:rest .on (snocO m (mkKy (addG gs ⟨sls x ++ sls y,[]⟩) ⟨some (d,.d (.val (.int .i64 c))),[]⟩)) (g.app ⟨some (d,.d (.val (.int .i64 c))),[]⟩)):atOp E m gs ⟨some d,.call ⟨.builtin .max,#[x,y],tys⟩,ty,pos,aft,gd⟩ g rest:=by
 subst hc
 exact atOp_by (st_max x y a b tys hx hy) hr
theorem st_shr1 (x:Operand) (m:Int) (t u:TypeId) (hx:g.ev x = .d (.val (.int .u64 m))) :
 StS E.P ⟨some d,.binOp .shr t x (.const (.int .u64 1)) u,ty,pos,aft,gd⟩ g ⟨sls x,[]⟩ ⟨some (d,.d (.val (.int .u64 (m.fdiv 2)))),[]⟩:=
 st_val1 rfl hx rfl fun a w h1=>by
  have he:a.eval (.const (.int .u64 1)) = .int .u64 1:=rfl
  have hb:min 1 (IntKind.u64).bits = 1:=by decide
  simp [execOp,h1,he,eqGuard,binOp,Op.shift,hb]
theorem atShr1 {m:Option (List Ky)} {gs:Option Nat} {rest:Tok → Option (List Ky) → G → Prop} {x:Operand} {t u:TypeId} (a c:Int) (hc:a.fdiv 2 = c) (hx:g.ev x = .d (.val (.int .u64 a)))
 (hr:rest .on (snocO m (mkKy (addG gs ⟨sls x,[]⟩) ⟨some (d,.d (.val (.int .u64 c))),[]⟩)) (g.app ⟨some (d,.d (.val (.int .u64 c))),[]⟩)):atOp E m gs ⟨some d,.binOp .shr t x (.const (.int .u64 1)) u,ty,pos,aft,gd⟩ g rest:=by
 subst hc
 exact atOp_by (st_shr1 x a t u hx) hr
theorem wrap_u64 {n:Int} (h0:0 ≤ n) (h1:n ≤ 9223372036854775807):IntKind.wrap .u64 n = n:=by
 simp only [IntKind.wrap,IntKind.bits,IntKind.signed,Bool.false_and,Bool.false_eq_true,if_false]
 omega
end
end Go.Eng
