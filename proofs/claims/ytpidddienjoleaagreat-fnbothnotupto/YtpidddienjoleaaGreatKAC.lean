/-
  The symbolic layer, sixteenth text: a state seen with less, its owned places under other numbers, a grown slice seen as data. The symbolic layer, seventeenth text: structs that are built, slices that are written out or cut, a store into a slice of the call's own, bytes as text. The symbolic layer, eighteenth text: slices and texts that are cut, a store into a slice of the call's own, bytes as text. The symbolic layer, nineteenth text: calls whose outcome is plain, that only look at what they are given; the end of a function's code. The symbolic layer, twentieth text: one operation, worked out by a function; what is left to be shown comes out of it as a proposition. The symbolic layer, thirty-sixth text: slices that own slices: their rows, read, written, written out, grown. The symbolic layer, thirty-seventh text: loads, stores, elements, lengths of slices that own slices. The symbolic layer, thirty-eighth text: append to slices that own slices; such slices written out. The symbolic layer, twenty-first text: any one operation worked out by a function. The symbolic layer, twenty-second text: code worked out by a function, as far as it goes without a word from outside.
-/
import Derived.Test.YtpidddienjoleaaGreatKAB
import Derived.Laws.BytesArg
import Derived.Laws.Slices
set_option linter.unusedVariables false
set_option linter.unusedSimpArgs false
namespace Go.Eng
open Go.RowKit
theorem acc_data {w:World} {ok ok':Nat → Prop} {e:TypeId} {sz:Nat} {v:Value} {xs:List (List D)} {us:List (List Value)} (ho:w.ownsRow 0 e sz v xs.length us.flatten) (hr:RepRows w ok sz xs us) (hB:xs.length ≤ LB)
 (hok:∀ b,blk v = some b → ok' b) (hf:∀ b,ok b → b < w.heap.size → ok' b ∧ w.heap[b]? = w.heap[b]?):RepD w ok' (.lst xs) v:=by
 rcases ho.2 with ⟨h1,h2⟩ | ⟨b,cap,cur,h1,_,h2,h3,h4,h5,h6⟩
 ·obtain rfl:=List.eq_nil_of_length_eq_zero h2
  rw [h1]; exact .nil
 ·subst h1
  have hr':=hr.frame hf (Nat.le_refl _)
  refine .lst xs us b 0 cap sz (hok b rfl) (heap_lt h2) h3 h4 hB hr'.len hr'.hx hr'.hu (fun j u hu=>?_) hr'.hr
  have hj:j < us.flatten.length:=by
   rcases Nat.lt_or_ge j us.flatten.length with h' | h'
   ·exact h'
   ·rw [List.getElem?_eq_none h'] at hu; cases hu
  rw [← h6] at hu
  have hu2:cur.toList[j]? = some u:=by
   rw [List.getElem?_take] at hu
   split at hu
   ·exact hu
   ·cases hu
  have hcur:cur[j]? = some u:=by simpa using hu2
  simp [World.cell?,h2,hcur]
mutual
def T.frz:T → Option D
 | .leaf d=>some d
 | .ref _=>none
 | .own _ xs=>match frzRows xs with | some ys=>some (.lst ys) | none=>none
def frzCells:List T → Option (List D)
 | []=>some []
 | t :: ts=>match t.frz,frzCells ts with | some d,some ds=>some (d :: ds) | _,_=>none
def frzRows:List (List T) → Option (List (List D))
 | []=>some []
 | x :: xs=>match frzCells x,frzRows xs with | some y,some ys=>some (y :: ys) | _,_=>none
end
def accD:Option En → D → Prop
 | some (.acc _ xs),y=>y = .lst xs
 | some (.tre _ xs),y=>∃ ys,frzRows xs = some ys ∧ y = .lst ys
 | _,_=>False
section
variable {P:Program} {w:World} {ok ok':Nat → Prop} {ν ν':Nat → Nm} {st st':Nat → Option En}
mutual
theorem TOk.data (hf:∀ b,ok b → b < w.heap.size → ok' b ∧ w.heap[b]? = w.heap[b]?):∀ (t:T) (v:Value) (F:List Nat) (d:D),t.frz = some d → TOk P w ok ν st t v F → (∀ b ∈ F,ok' b) → RepD w ok' d v
 | .leaf x,v,F,d,hd,h,_=>by
   simp only [T.frz,Option.some.injEq] at hd
   simp only [TOk] at h
   rw [← hd]
   exact h.1.frame hf (Nat.le_refl _)
 | .ref j,v,F,d,hd,_,_=>by simp [T.frz] at hd
 | .own e xs,v,F,d,hd,h,hF=>by
   simp only [T.frz] at hd
   split at hd
   ·rename_i ys hys
    obtain rfl:=Option.some.inj hd
    simp only [TOk] at h
    obtain ⟨us,F1,h1,h2,h3,h4,rfl⟩:=h
    obtain ⟨k1,k2,k3⟩:=TRows.data hf xs us F1 ys hys h3 (fun b hb=>hF b (List.mem_append.2 (.inr hb)))
    refine acc_data (ok:=ok') (by rw [← k2]; exact h1) ⟨k1,fun i x hx=>?_,h2,fun i j x u dd vv a1 a2 a3 a4=>(k3 i x u a1 a2).2 j dd vv a3 a4⟩ (by rw [← k2]; exact h4) (fun b hb=>hF b (List.mem_append.2 (.inl (mem_hb.2 hb)))) (fun b hb _=>⟨hb,rfl⟩)
    have hi:i < us.length:=by
     rw [k1]
     exact (List.getElem?_eq_some_iff.1 hx).1
    rw [(k3 i x us[i] hx (List.getElem?_eq_getElem hi)).1]
    exact h2 i _ (List.getElem?_eq_getElem hi)
   ·cases hd
theorem TCells.data (hf:∀ b,ok b → b < w.heap.size → ok' b ∧ w.heap[b]? = w.heap[b]?):∀ (ts:List T) (vs:List Value) (F:List Nat) (ds:List D),frzCells ts = some ds → TCells P w ok ν st ts vs F → (∀ b ∈ F,ok' b) → ds.length = vs.length ∧ ∀ (j:Nat) (d:D) (v:Value),ds[j]? = some d → vs[j]? = some v → RepD w ok' d v
 | [],[],F,ds,hd,_,_=>by
   simp only [frzCells,Option.some.injEq] at hd
   rw [← hd]
   simp
 | [],_ :: _,F,ds,_,h,_=>by simp [TCells] at h
 | _ :: _,[],F,ds,_,h,_=>by simp [TCells] at h
 | t :: ts,v :: vs,F,ds,hd,h,hF=>by
   simp only [frzCells] at hd
   split at hd
   ·rename_i d' ds' e1 e2
    obtain rfl:=Option.some.inj hd
    simp only [TCells] at h
    obtain ⟨F1,F2,h1,h2,rfl⟩:=h
    have k1:=TOk.data hf t v F1 d' e1 h1 fun b hb=>hF b (List.mem_append.2 (.inl hb))
    obtain ⟨k2,k3⟩:=TCells.data hf ts vs F2 ds' e2 h2 fun b hb=>hF b (List.mem_append.2 (.inr hb))
    refine ⟨by simp [k2],fun j d u a1 a2=>?_⟩
    cases j with
    | zero=>
      obtain rfl:d' = d:=by simpa using a1
      obtain rfl:v = u:=by simpa using a2
      exact k1
    | succ j=>exact k3 j d u (by simpa using a1) (by simpa using a2)
   ·cases hd
theorem TRows.data (hf:∀ b,ok b → b < w.heap.size → ok' b ∧ w.heap[b]? = w.heap[b]?):∀ (xs:List (List T)) (us:List (List Value)) (F:List Nat) (ys:List (List D)),frzRows xs = some ys → TRows P w ok ν st xs us F → (∀ b ∈ F,ok' b) → us.length = ys.length ∧ xs.length = ys.length ∧ ∀ (i:Nat) (x:List D) (u:List Value),ys[i]? = some x → us[i]? = some u → x.length = u.length ∧ ∀ (j:Nat) (d:D) (v:Value),x[j]? = some d → u[j]? = some v → RepD w ok' d v
 | [],[],F,ys,hd,_,_=>by
   simp only [frzRows,Option.some.injEq] at hd
   rw [← hd]
   simp
 | [],_ :: _,F,ds,_,h,_=>by simp [TRows] at h
 | _ :: _,[],F,ds,_,h,_=>by simp [TRows] at h
 | x :: xs,u :: us,F,ys,hd,h,hF=>by
   simp only [frzRows] at hd
   split at hd
   ·rename_i y' ys' e1 e2
    obtain rfl:=Option.some.inj hd
    simp only [TRows] at h
    obtain ⟨F1,F2,h1,h2,rfl⟩:=h
    have k1:=TCells.data hf x u F1 y' e1 h1 fun b hb=>hF b (List.mem_append.2 (.inl hb))
    obtain ⟨k2,k3,k4⟩:=TRows.data hf xs us F2 ys' e2 h2 fun b hb=>hF b (List.mem_append.2 (.inr hb))
    refine ⟨by simp [k2],by simp [k3],fun i z q a1 a2=>?_⟩
    cases i with
    | zero=>
      obtain rfl:y' = z:=by simpa using a1
      obtain rfl:u = q:=by simpa using a2
      exact k1
    | succ i=>exact k4 i z q (by simpa using a1) (by simpa using a2)
   ·cases hd
end
mutual
theorem TOk.still:∀ (t:T) (v:Value) (F:List Nat),t.frz.isSome = true → TOk P w ok ν st t v F → TOk P w ok ν' st' t v F
 | .leaf x,v,F,_,h=>by simpa only [TOk] using h
 | .ref j,v,F,hd,_=>by simp [T.frz] at hd
 | .own e xs,v,F,hd,h=>by
   simp only [T.frz] at hd
   simp only [TOk] at h ⊢
   obtain ⟨us,F1,h1,h2,h3,h4⟩:=h
   refine ⟨us,F1,h1,h2,TRows.still xs us F1 ?_ h3,h4⟩
   split at hd
   ·rename_i e; rw [e]; rfl
   ·cases hd
theorem TCells.still:∀ (ts:List T) (vs:List Value) (F:List Nat),(frzCells ts).isSome = true → TCells P w ok ν st ts vs F → TCells P w ok ν' st' ts vs F
 | [],[],F,_,h=>by simpa only [TCells] using h
 | [],_ :: _,F,_,h=>by simp [TCells] at h
 | _ :: _,[],F,_,h=>by simp [TCells] at h
 | t :: ts,v :: vs,F,hd,h=>by
   simp only [frzCells] at hd
   simp only [TCells] at h ⊢
   obtain ⟨F1,F2,h1,h2,h3⟩:=h
   split at hd
   ·rename_i e1 e2
    exact ⟨F1,F2,TOk.still t v F1 (by rw [e1]; rfl) h1,TCells.still ts vs F2 (by rw [e2]; rfl) h2,h3⟩
   ·cases hd
theorem TRows.still:∀ (xs:List (List T)) (us:List (List Value)) (F:List Nat),(frzRows xs).isSome = true → TRows P w ok ν st xs us F → TRows P w ok ν' st' xs us F
 | [],[],F,_,h=>by simpa only [TRows] using h
 | [],_ :: _,F,_,h=>by simp [TRows] at h
 | _ :: _,[],F,_,h=>by simp [TRows] at h
 | x :: xs,u :: us,F,hd,h=>by
   simp only [frzRows] at hd
   simp only [TRows] at h ⊢
   obtain ⟨F1,F2,h1,h2,h3⟩:=h
   split at hd
   ·rename_i e1 e2
    exact ⟨F1,F2,TCells.still x u F1 (by rw [e1]; rfl) h1,TRows.still xs us F2 (by rw [e2]; rfl) h2,h3⟩
   ·cases hd
end
def lift (xs:List (List D)):List (List T):=xs.map fun x=>x.map T.leaf
theorem frzCells_lift:∀ (x:List D),frzCells (x.map T.leaf) = some x
 | []=>rfl
 | d :: x=>by simp [frzCells,T.frz,frzCells_lift x]
theorem frzRows_lift:∀ (xs:List (List D)),frzRows (lift xs) = some xs
 | []=>rfl
 | x :: xs=>by
   have:=frzRows_lift xs
   simp only [lift] at this
   simp [lift,frzRows,frzCells_lift,this]
theorem TCells.of_data:∀ {ds:List D} {vs:List Value},vs.length = ds.length → (∀ (j:Nat) (d:D) (v:Value),ds[j]? = some d → vs[j]? = some v → RepD w ok d v) → TCells P w ok ν st (ds.map T.leaf) vs []
 | [],[],_,_=>by simp [TCells]
 | d :: ds,v :: vs,hl,h=>by
   simp only [List.map_cons,TCells,TOk]
   exact ⟨[],[],⟨h 0 d v rfl rfl,rfl⟩,TCells.of_data (by simpa using hl) fun j d v a1 a2=>h (j + 1) d v (by simpa using a1) (by simpa using a2),rfl⟩
 | [],_ :: _,hl,_=>by simp at hl
 | _ :: _,[],hl,_=>by simp at hl
theorem TRows.of_data {sz:Nat}:∀ {xs:List (List D)} {us:List (List Value)},RepRows w ok sz xs us → TRows P w ok ν st (lift xs) us []
 | [],[],_=>by simp [lift,TRows]
 | x :: xs,u :: us,h=>by
   simp only [lift,List.map_cons,TRows]
   refine ⟨[],[],TCells.of_data ?_ fun j d v a1 a2=>h.hr 0 j x u d v rfl rfl a1 a2,TRows.of_data (sz:=sz) (xs:=xs) ⟨by simpa using h.len,fun i x hx=>h.hx (i + 1) x (by simpa using hx),fun i u hu=>h.hu (i + 1) u (by simpa using hu),fun i j x u d v a1 a2 a3 a4=>h.hr (i + 1) j x u d v (by simpa using a1) (by simpa using a2) a3 a4⟩,rfl⟩
   rw [h.hu 0 u rfl,h.hx 0 x rfl]
 | [],_ :: _,h=>by have:=h.len; simp at this
 | _ :: _,[],h=>by have:=h.len; simp at this
theorem lift_len (xs:List (List D)):(lift xs).length = xs.length:=by simp [lift]
end
def lookO:List (Option Nat) → Nat → Option (Option Nat)
 | [],_=>none
 | a :: _,0=>some a
 | _ :: as,n + 1=>lookO as n
def memO (k:Nat):List (Option Nat) → Bool
 | []=>false
 | some j :: r=>k == j || memO k r
 | none :: r=>memO k r
def nodO:List (Option Nat) → Bool
 | []=>true
 | some j :: r=>!memO j r && nodO r
 | none :: r=>nodO r
mutual
def wk (g:G) (m:List (Option Nat)):PV → PV → Prop
 | p,.any=>True
 | .nilS,.nilS=>True
 | .undef,.undef=>True
 | .nilS,.d y=>y = .lst []
 | .nilS,.acc k'=>lookO m k' = some none
 | .d x,.d y=>x = y
 | .acc k,.d y=>accD (g.at k) y ∧ memO k m = false
 | .acc k,.acc k'=>lookO m k' = some (some k)
 | .ptr k off,.ptr k' off'=>lookO m k' = some (some k) ∧ off = off'
 | .eptr k i off sz,.eptr k' i' off' sz'=>lookO m k' = some (some k) ∧ i = i' ∧ off = off' ∧ sz = sz'
 | .iptr xs i off,.iptr ys j off'=>xs = ys ∧ i = j ∧ off = off'
 | .agg cs,.agg ds=>wks g m cs ds
 | .tup cs,.tup ds=>wks g m cs ds
 | .fn f cs,.fn f' ds=>f = f' ∧ wks g m cs ds
 | _,_=>False
def wks (g:G) (m:List (Option Nat)):List PV → List PV → Prop
 | [],[]=>True
 | p :: ps,q :: qs=>wk g m p q ∧ wks g m ps qs
 | _,_=>False
end
def wkE (g:G) (m:List (Option Nat)):En → En → Prop
 | _,.dead=>True
 | .box cs,.box ds=>wks g m cs ds
 | .acc e xs,.acc e' ys=>e = e' ∧ xs = ys
 | .acc e xs,.tre e' ys=>e = e' ∧ lift xs = ys
 | .tre e xs,.tre e' ys=>e = e' ∧ xs = ys ∧ (frzRows xs).isSome = true
 | .map kvs,.map kvs'=>kvs = kvs'
 | _,_=>False
def wkEs (g:G) (m:List (Option Nat)):List (Option Nat) → List (Option En) → Prop
 | [],[]=>True
 | some k :: ks,some e' :: es=>(∃ e,g.at k = some e ∧ wkE g m e e') ∧ wkEs g m ks es
 | none :: ks,some (.acc _ xs) :: es=>xs = [] ∧ wkEs g m ks es
 | none :: ks,some (.tre _ xs) :: es=>xs = [] ∧ wkEs g m ks es
 | _,_=>False
def keeps:Nat → Nat → List (Option Nat) → Bool
 | 0,_,_=>true
 | n + 1,i,some j :: r=>i == j && keeps n (i + 1) r
 | _,_,_=>false
def memL (k:Nat):List (Option Nat) → List (Option En) → Bool
 | some j :: r,some e :: es=>(e.live && k == j) || memL k r es
 | _ :: r,_ :: es=>memL k r es
 | _,_=>false
def nodL:List (Option Nat) → List (Option En) → Bool
 | some j :: r,some e :: es=>(!e.live || !memL j r es) && nodL r es
 | _ :: r,_ :: es=>nodL r es
 | _,_=>true
structure Wk (n0:Nat) (m:List (Option Nat)) (g g':G):Prop where
 s:wks g m g.sl g'.sl
 p:wkEs g m m g'.st
 nod:nodL m g'.st = true
 keep:keeps n0 0 m = true
theorem lookO_mem:∀ {m:List (Option Nat)} {i k:Nat},lookO m i = some (some k) → memO k m = true
 | [],_,_,h=>by simp [lookO] at h
 | a :: as,0,k,h=>by
   simp only [lookO,Option.some.injEq] at h
   subst h
   simp [memO]
 | a :: as,n + 1,k,h=>by
   simp only [lookO] at h
   have:=lookO_mem h
   cases a <;> simp [memO,this]
theorem memL_of:∀ {m:List (Option Nat)} {es:List (Option En)} {i k:Nat} {e:En},lookO m i = some (some k) → ent es i = some e → e.live = true → memL k m es = true
 | [],_,_,_,_,h,_,_=>by simp [lookO] at h
 | _ :: _,[],i,_,_,_,h,_=>by cases i <;> simp [ent] at h
 | a :: as,o :: os,0,k,e,h,h2,h3=>by
   simp only [lookO,Option.some.injEq] at h
   simp only [ent] at h2
   subst h h2
   simp [memL,h3]
 | a :: as,o :: os,i + 1,k,e,h,h2,h3=>by
   simp only [lookO] at h
   simp only [ent] at h2
   have:=memL_of h h2 h3
   cases a <;> cases o <;> simp [memL,this]
theorem lookL_inj:∀ {m:List (Option Nat)} {es:List (Option En)},nodL m es = true → ∀ {i j k:Nat} {e e':En},lookO m i = some (some k) → lookO m j = some (some k) → ent es i = some e → ent es j = some e' → e.live = true → e'.live = true → i = j
 | [],_,_,_,_,_,_,_,h,_,_,_,_,_=>by simp [lookO] at h
 | _ :: _,[],_,i,_,_,_,_,_,_,h,_,_,_=>by cases i <;> simp [ent] at h
 | a :: as,o :: os,hn,0,0,_,_,_,_,_,_,_,_,_=>rfl
 | a :: as,o :: os,hn,0,j + 1,k,e,e',h1,h2,g1,g2,l1,l2=>by
   simp only [lookO,Option.some.injEq] at h1 h2
   simp only [ent] at g1 g2
   subst h1 g1
   have:=memL_of h2 g2 l2
   simp [nodL,this,l1] at hn
 | a :: as,o :: os,hn,i + 1,0,k,e,e',h1,h2,g1,g2,l1,l2=>by
   simp only [lookO,Option.some.injEq] at h1 h2
   simp only [ent] at g1 g2
   subst h2 g2
   have:=memL_of h1 g1 l1
   simp [nodL,this,l2] at hn
 | a :: as,o :: os,hn,i + 1,j + 1,k,e,e',h1,h2,g1,g2,l1,l2=>by
   simp only [lookO] at h1 h2
   simp only [ent] at g1 g2
   have hn':nodL as os = true:=by
    cases a <;> cases o <;> simp only [nodL,Bool.and_eq_true] at hn <;> first | exact hn | exact hn.2
   rw [lookL_inj hn' h1 h2 g1 g2 l1 l2]
theorem keeps_spec:∀ {n i:Nat} {m:List (Option Nat)},keeps n i m = true → ∀ j,j < n → lookO m j = some (some (i + j))
 | 0,_,_,_,j,h=>by omega
 | n + 1,i,[],h,_,_=>by simp [keeps] at h
 | n + 1,i,none :: r,h,_,_=>by simp [keeps] at h
 | n + 1,i,some a :: r,h,j,hj=>by
   simp only [keeps,Bool.and_eq_true,beq_iff_eq] at h
   obtain ⟨rfl,h2⟩:=h
   cases j with
   | zero=>rfl
   | succ j=>
     simp only [lookO]
     rw [keeps_spec h2 j (by omega)]
     congr 2; omega
theorem wkEs_at {g:G} {m:List (Option Nat)}:∀ {ks:List (Option Nat)} {es:List (Option En)},wkEs g m ks es → ∀ (i:Nat) (e':En),ent es i = some e' →
 (∃ k e,lookO ks i = some (some k) ∧ g.at k = some e ∧ wkE g m e e') ∨ (lookO ks i = some none ∧ ∃ t,e' = .acc t [] ∨ e' = .tre t [])
 | [],[],_,i,e',h=>by cases i <;> simp [ent] at h
 | some k :: ks,some e :: es,hw,0,e',h=>by
   simp only [wkEs] at hw
   obtain ⟨⟨e0,h1,h2⟩,_⟩:=hw
   obtain rfl:e = e':=by simpa [ent] using h
   exact .inl ⟨k,e0,rfl,h1,h2⟩
 | some k :: ks,some e :: es,hw,i + 1,e',h=>by
   simp only [wkEs] at hw
   simp only [lookO]
   exact wkEs_at hw.2 i e' (by simpa [ent] using h)
 | none :: ks,some (.acc t xs) :: es,hw,0,e',h=>by
   simp only [wkEs] at hw
   obtain rfl:En.acc t xs = e':=by simpa [ent] using h
   exact .inr ⟨rfl,t,.inl (by rw [hw.1])⟩
 | none :: ks,some (.acc t xs) :: es,hw,i + 1,e',h=>by
   simp only [wkEs] at hw
   simp only [lookO]
   exact wkEs_at hw.2 i e' (by simpa [ent] using h)
 | none :: ks,some (.tre t xs) :: es,hw,0,e',h=>by
   simp only [wkEs] at hw
   obtain rfl:En.tre t xs = e':=by simpa [ent] using h
   exact .inr ⟨rfl,t,.inr (by rw [hw.1])⟩
 | none :: ks,some (.tre t xs) :: es,hw,i + 1,e',h=>by
   simp only [wkEs] at hw
   simp only [lookO]
   exact wkEs_at hw.2 i e' (by simpa [ent] using h)
 | none :: ks,some (.box _) :: es,hw,_,_,_=>by simp [wkEs] at hw
 | none :: ks,some .dead :: es,hw,_,_,_=>by simp [wkEs] at hw
 | none :: ks,some (.map _) :: es,hw,_,_,_=>by simp [wkEs] at hw
 | some k :: ks,none :: es,hw,_,_,_=>by simp [wkEs] at hw
 | none :: ks,none :: es,hw,_,_,_=>by simp [wkEs] at hw
 | some k :: ks,[],hw,_,_,_=>by simp [wkEs] at hw
 | none :: ks,[],hw,_,_,_=>by simp [wkEs] at hw
 | [],_ :: _,hw,_,_,_=>by simp [wkEs] at hw
theorem wkEs_some {g:G} {m:List (Option Nat)}:∀ {ks:List (Option Nat)} {es:List (Option En)},wkEs g m ks es → ∀ (i:Nat) (x:Option Nat),lookO ks i = some x → (ent es i).isSome = true
 | [],[],_,i,x,h=>by simp [lookO] at h
 | some k :: ks,some e :: es,hw,0,x,h=>rfl
 | some k :: ks,some e :: es,hw,i + 1,x,h=>by
   simp only [wkEs] at hw
   simp only [ent]
   exact wkEs_some hw.2 i x (by simpa [lookO] using h)
 | none :: ks,some (.acc t xs) :: es,hw,0,x,h=>rfl
 | none :: ks,some (.acc t xs) :: es,hw,i + 1,x,h=>by
   simp only [wkEs] at hw
   simp only [ent]
   exact wkEs_some hw.2 i x (by simpa [lookO] using h)
 | none :: ks,some (.tre t xs) :: es,hw,0,x,h=>rfl
 | none :: ks,some (.tre t xs) :: es,hw,i + 1,x,h=>by
   simp only [wkEs] at hw
   simp only [ent]
   exact wkEs_some hw.2 i x (by simpa [lookO] using h)
 | none :: ks,some (.box _) :: es,hw,_,_,_=>by simp [wkEs] at hw
 | none :: ks,some .dead :: es,hw,_,_,_=>by simp [wkEs] at hw
 | none :: ks,some (.map _) :: es,hw,_,_,_=>by simp [wkEs] at hw
 | some k :: ks,none :: es,hw,_,_,_=>by simp [wkEs] at hw
 | none :: ks,none :: es,hw,_,_,_=>by simp [wkEs] at hw
 | some k :: ks,[],hw,_,_,_=>by simp [wkEs] at hw
 | none :: ks,[],hw,_,_,_=>by simp [wkEs] at hw
 | [],_ :: _,hw,_,_,_=>by simp [wkEs] at hw
def nuO (ν:Nat → Nm) (m:List (Option Nat)) (i:Nat):Nm:=
 match lookO m i with
 | some (some k)=>ν k
 | _=>⟨.slice none 0 0,[]⟩
theorem nuO_some {ν:Nat → Nm} {m:List (Option Nat)} {i k:Nat} (h:lookO m i = some (some k)):nuO ν m i = ν k:=by simp [nuO,h]
theorem nuO_none {ν:Nat → Nm} {m:List (Option Nat)} {i:Nat} (h:lookO m i = some none):nuO ν m i = ⟨.slice none 0 0,[]⟩:=by simp [nuO,h]
section
variable {w:World} {ok ok':Nat → Prop} {ν:Nat → Nm} {g:G} {m:List (Option Nat)} {st':Nat → Option En}
mutual
theorem RepPV.wk (hf:∀ b,ok b → b < w.heap.size → ok' b ∧ w.heap[b]? = w.heap[b]?) (hst:∀ i x,lookO m i = some x → (st' i).isSome = true)
 (hacc:∀ k y,accD (g.at k) y → memO k m = false → RepD w ok' y (ν k).v) :
 ∀ (p q:PV) (v:Value),wk g m p q → RepPV w ok ν g.at p v → RepPV w ok' (nuO ν m) st' q v
 | p,.any,_,_,_=>by simp [RepPV]
 | .nilS,.nilS,v,_,h=>by simpa [RepPV] using h
 | .undef,.undef,v,_,h=>by simpa [RepPV] using h
 | .nilS,.d y,v,hw,h=>by
   simp only [Eng.wk] at hw
   simp only [RepPV] at h ⊢
   rw [hw,h]; exact .nil
 | .nilS,.acc k',v,hw,h=>by
   simp only [Eng.wk] at hw
   simp only [RepPV] at h ⊢
   rw [nuO_none hw]
   exact ⟨hst _ _ hw,h⟩
 | .d x,.d y,v,hw,h=>by
   simp only [Eng.wk] at hw
   simp only [RepPV] at h ⊢
   rw [← hw]
   exact h.frame hf (Nat.le_refl _)
 | .acc k,.d y,v,hw,h=>by
   simp only [Eng.wk] at hw
   simp only [RepPV] at h ⊢
   rw [h.2]
   exact hacc k y hw.1 hw.2
 | .acc k,.acc k',v,hw,h=>by
   simp only [Eng.wk] at hw
   simp only [RepPV] at h ⊢
   rw [nuO_some hw]
   exact ⟨hst _ _ hw,h.2⟩
 | .ptr k off,.ptr k' off',v,hw,h=>by
   simp only [Eng.wk] at hw
   obtain ⟨hw,rfl⟩:=hw
   simp only [RepPV] at h ⊢
   rw [nuO_some hw]
   exact ⟨hst _ _ hw,h.2⟩
 | .eptr k i off sz,.eptr k' i' off' sz',v,hw,h=>by
   simp only [Eng.wk] at hw
   obtain ⟨hw,rfl,rfl,rfl⟩:=hw
   simp only [RepPV] at h ⊢
   rw [nuO_some hw]
   exact ⟨hst _ _ hw,h.2⟩
 | .iptr xs i off,.iptr ys j off',v,hw,h=>by
   simp only [Eng.wk] at hw
   obtain ⟨rfl,rfl,rfl⟩:=hw
   simp only [RepPV] at h ⊢
   obtain ⟨b,o,cap,h1,h2,h3⟩:=h
   exact ⟨b,o,cap,h1.frame hf (Nat.le_refl _),h2,h3⟩
 | .agg cs,.agg ds,v,hw,h=>by
   simp only [Eng.wk] at hw
   simp only [RepPV] at h ⊢
   obtain ⟨vs,rfl,h⟩:=h
   exact ⟨vs,rfl,RepPVs.wk hf hst hacc cs ds vs hw h⟩
 | .tup cs,.tup ds,v,hw,h=>by
   simp only [Eng.wk] at hw
   simp only [RepPV] at h ⊢
   obtain ⟨vs,rfl,h⟩:=h
   exact ⟨vs,rfl,RepPVs.wk hf hst hacc cs ds vs hw h⟩
 | .fn f cs,.fn f' ds,v,hw,h=>by
   simp only [Eng.wk] at hw
   obtain ⟨rfl,hw⟩:=hw
   simp only [RepPV] at h ⊢
   obtain ⟨vs,rfl,h⟩:=h
   exact ⟨vs,rfl,RepPVs.wk hf hst hacc cs ds vs hw h⟩
 | .any,.undef,_,hw,_ | .any,.nilS,_,hw,_ | .any,.d _,_,hw,_ | .any,.agg _,_,hw,_ | .any,.tup _,_,hw,_ | .any,.ptr _ _,_,hw,_ | .any,.acc _,_,hw,_ | .any,.eptr _ _ _ _,_,hw,_ | .any,.iptr _ _ _,_,hw,_ | .any,.fn _ _,_,hw,_=>by simp [Eng.wk] at hw
 | .undef,.nilS,_,hw,_ | .undef,.d _,_,hw,_ | .undef,.agg _,_,hw,_ | .undef,.tup _,_,hw,_ | .undef,.ptr _ _,_,hw,_ | .undef,.acc _,_,hw,_ | .undef,.eptr _ _ _ _,_,hw,_ | .undef,.iptr _ _ _,_,hw,_ | .undef,.fn _ _,_,hw,_=>by simp [Eng.wk] at hw
 | .nilS,.undef,_,hw,_ | .nilS,.agg _,_,hw,_ | .nilS,.tup _,_,hw,_ | .nilS,.ptr _ _,_,hw,_ | .nilS,.eptr _ _ _ _,_,hw,_ | .nilS,.iptr _ _ _,_,hw,_ | .nilS,.fn _ _,_,hw,_=>by simp [Eng.wk] at hw
 | .d _,.undef,_,hw,_ | .d _,.nilS,_,hw,_ | .d _,.agg _,_,hw,_ | .d _,.tup _,_,hw,_ | .d _,.ptr _ _,_,hw,_ | .d _,.acc _,_,hw,_ | .d _,.eptr _ _ _ _,_,hw,_ | .d _,.iptr _ _ _,_,hw,_ | .d _,.fn _ _,_,hw,_=>by simp [Eng.wk] at hw
 | .agg _,.undef,_,hw,_ | .agg _,.nilS,_,hw,_ | .agg _,.d _,_,hw,_ | .agg _,.tup _,_,hw,_ | .agg _,.ptr _ _,_,hw,_ | .agg _,.acc _,_,hw,_ | .agg _,.eptr _ _ _ _,_,hw,_ | .agg _,.iptr _ _ _,_,hw,_ | .agg _,.fn _ _,_,hw,_=>by simp [Eng.wk] at hw
 | .tup _,.undef,_,hw,_ | .tup _,.nilS,_,hw,_ | .tup _,.agg _,_,hw,_ | .tup _,.d _,_,hw,_ | .tup _,.ptr _ _,_,hw,_ | .tup _,.acc _,_,hw,_ | .tup _,.eptr _ _ _ _,_,hw,_ | .tup _,.iptr _ _ _,_,hw,_ | .tup _,.fn _ _,_,hw,_=>by simp [Eng.wk] at hw
 | .ptr _ _,.undef,_,hw,_ | .ptr _ _,.nilS,_,hw,_ | .ptr _ _,.agg _,_,hw,_ | .ptr _ _,.d _,_,hw,_ | .ptr _ _,.tup _,_,hw,_ | .ptr _ _,.acc _,_,hw,_ | .ptr _ _,.eptr _ _ _ _,_,hw,_ | .ptr _ _,.iptr _ _ _,_,hw,_ | .ptr _ _,.fn _ _,_,hw,_=>by simp [Eng.wk] at hw
 | .acc _,.undef,_,hw,_ | .acc _,.nilS,_,hw,_ | .acc _,.agg _,_,hw,_ | .acc _,.tup _,_,hw,_ | .acc _,.ptr _ _,_,hw,_ | .acc _,.eptr _ _ _ _,_,hw,_ | .acc _,.iptr _ _ _,_,hw,_ | .acc _,.fn _ _,_,hw,_=>by simp [Eng.wk] at hw
 | .eptr _ _ _ _,.undef,_,hw,_ | .eptr _ _ _ _,.nilS,_,hw,_ | .eptr _ _ _ _,.agg _,_,hw,_ | .eptr _ _ _ _,.d _,_,hw,_ | .eptr _ _ _ _,.tup _,_,hw,_ | .eptr _ _ _ _,.ptr _ _,_,hw,_ | .eptr _ _ _ _,.acc _,_,hw,_ | .eptr _ _ _ _,.iptr _ _ _,_,hw,_ | .eptr _ _ _ _,.fn _ _,_,hw,_=>by simp [Eng.wk] at hw
 | .iptr _ _ _,.undef,_,hw,_ | .iptr _ _ _,.nilS,_,hw,_ | .iptr _ _ _,.agg _,_,hw,_ | .iptr _ _ _,.d _,_,hw,_ | .iptr _ _ _,.tup _,_,hw,_ | .iptr _ _ _,.ptr _ _,_,hw,_ | .iptr _ _ _,.acc _,_,hw,_ | .iptr _ _ _,.eptr _ _ _ _,_,hw,_ | .iptr _ _ _,.fn _ _,_,hw,_=>by simp [Eng.wk] at hw
 | .fn _ _,.undef,_,hw,_ | .fn _ _,.nilS,_,hw,_ | .fn _ _,.agg _,_,hw,_ | .fn _ _,.d _,_,hw,_ | .fn _ _,.tup _,_,hw,_ | .fn _ _,.ptr _ _,_,hw,_ | .fn _ _,.acc _,_,hw,_ | .fn _ _,.eptr _ _ _ _,_,hw,_ | .fn _ _,.iptr _ _ _,_,hw,_=>by simp [Eng.wk] at hw
theorem RepPVs.wk (hf:∀ b,ok b → b < w.heap.size → ok' b ∧ w.heap[b]? = w.heap[b]?) (hst:∀ i x,lookO m i = some x → (st' i).isSome = true)
 (hacc:∀ k y,accD (g.at k) y → memO k m = false → RepD w ok' y (ν k).v) :
 ∀ (ps qs:List PV) (vs:List Value),wks g m ps qs → RepPVs w ok ν g.at ps vs → RepPVs w ok' (nuO ν m) st' qs vs
 | [],[],vs,_,h=>by cases vs <;> simp [RepPVs] at h ⊢
 | p :: ps,q :: qs,[],_,h=>by simp [RepPVs] at h
 | p :: ps,q :: qs,v :: vs,hw,h=>by
   simp only [wks] at hw
   simp only [RepPVs] at h ⊢
   exact ⟨RepPV.wk hf hst hacc p q v hw.1 h.1,RepPVs.wk hf hst hacc ps qs vs hw.2 h.2⟩
 | [],_ :: _,_,hw,_=>by simp [wks] at hw
 | _ :: _,[],_,hw,_=>by simp [wks] at hw
end
end
theorem wks_len:∀ {g:G} {m:List (Option Nat)} {ps qs:List PV},wks g m ps qs → ps.length = qs.length
 | _,_,[],[],_=>rfl
 | _,_,p :: ps,q :: qs,h=>by simp only [wks] at h; simp [wks_len h.2]
 | _,_,[],_ :: _,h=>by simp [wks] at h
 | _,_,_ :: _,[],h=>by simp [wks] at h
theorem wks_nth {w:World} {ok:Nat → Prop} {ν ν':Nat → Nm} {g:G} {m:List (Option Nat)} {st':Nat → Option En} {ok':Nat → Prop} (hv:∀ (p q:PV) (v:Value),wk g m p q → RepPV w ok ν g.at p v → RepPV w ok' ν' st' q v) :
 ∀ {ps qs:List PV},wks g m ps qs → ∀ (t:Nat) (v:Value),RepPV w ok ν g.at (nth ps t) v → RepPV w ok' ν' st' (nth qs t) v
 | [],[],_,t,v,_=>by simp [nth,RepPV]
 | p :: ps,q :: qs,h,0,v,hr=>by simp only [wks] at h; simp only [nth] at hr ⊢; exact hv p q v h.1 hr
 | p :: ps,q :: qs,h,t + 1,v,hr=>by simp only [wks] at h; simp only [nth] at hr ⊢; exact wks_nth hv h.2 t v hr
 | [],_ :: _,h,_,_,_=>by simp [wks] at h
 | _ :: _,[],h,_,_,_=>by simp [wks] at h
theorem weak_of {P:Program} {n0:Nat} {m:List (Option Nat)} {g g':G} (h:Wk n0 m g g'):Weak P n0 g g':=by
 intro X ν a w hp hs
 refine ⟨nuO ν m,?_⟩
 have hst:∀ i x,lookO m i = some x → (g'.at i).isSome = true:=fun i x hx=>wkEs_some h.p i x hx
 have hat:=fun i e' he=>wkEs_at h.p i e' he
 have hlive:∀ e e',wkE g m e e' → e'.live = true → e.live = true:=by
  intro e e' hw hl
  cases e' with
  | dead=>cases hl
  | box ds=>cases e <;> first | rfl | (simp [wkE] at hw)
  | acc t ys=>cases e <;> first | rfl | (simp [wkE] at hw)
  | tre t ys=>cases e <;> first | rfl | (simp [wkE] at hw)
  | map kvs=>cases e <;> first | rfl | (simp [wkE] at hw)
 have howned:∀ b,Own (nuO ν m) g'.at b → ∃ i k e,lookO m i = some (some k) ∧ g.at k = some e ∧ e.live = true ∧ (ν k).has b:=by
  rintro b ⟨i,e',h1,h2,h3⟩
  rcases hat i e' h1 with ⟨k,e,k1,k2,k3⟩ | ⟨k1,t,rfl | rfl⟩
  ·rw [nuO_some k1] at h3
   exact ⟨i,k,e,k1,k2,hlive e e' k3 h2,h3⟩
  all_goals
   rw [nuO_none k1] at h3
   simp [Nm.has,blk] at h3
 have hsub:∀ b,Own (nuO ν m) g'.at b → Own ν g.at b:=fun b hb=>by
  obtain ⟨i,k,e,k1,k2,k3,k4⟩:=howned b hb
  exact ⟨k,e,k2,k3,k4⟩
 have hf:∀ b,Free X ν g.at b → b < w.heap.size → Free X (nuO ν m) g'.at b ∧ w.heap[b]? = w.heap[b]?:=fun b hb _=>⟨⟨fun ho=>hb.1 (hsub b ho),hb.2⟩,rfl⟩
 have hfr:∀ k e,g.at k = some e → e.live = true → memO k m = false → ∀ b,(ν k).has b → Free X (nuO ν m) g'.at b:=by
  intro k e hk hl hm b hb
  have hown:Own ν g.at b:=⟨k,_,hk,hl,hb⟩
  refine ⟨fun ho=>?_,hs.notZ hown⟩
  obtain ⟨i,k',e',k1,k2,k3,k4⟩:=howned b ho
  have:=hs.inj k k' _ _ b hk k2 hl k3 hb k4
  subst this
  rw [lookO_mem k1] at hm
  cases hm
 have hacc:∀ k y,accD (g.at k) y → memO k m = false → RepD w (Free X (nuO ν m) g'.at) y (ν k).v:=by
  intro k y hk hm
  cases hgk:g.at k with
  | none=>rw [hgk] at hk; exact hk.elim
  | some e=>
    rw [hgk] at hk
    cases e with
    | box cs=>exact hk.elim
    | dead=>exact hk.elim
    | map kvs=>exact hk.elim
    | acc e xs=>
      simp only [accD] at hk
      rw [hk]
      obtain ⟨us,h1,h2,h3,h4⟩:=hs.en k _ hgk
      exact acc_data h1 h2 h3 (fun b hb=>hfr k _ hgk rfl hm b (.inl hb)) hf
    | tre e xs=>
      simp only [accD] at hk
      obtain ⟨ys,h1,rfl⟩:=hk
      have hen:=hs.en k _ hgk
      exact TOk.data hf (.own e xs) _ _ _ (by simp only [T.frz,h1]) hen.1 fun b hb=>hfr k _ hgk rfl hm b (has_hb.2 hb)
 have hrep:=fun p q v=>RepPV.wk (w:=w) (ok:=Free X ν g.at) (ok':=Free X (nuO ν m) g'.at) (ν:=ν) (g:=g) (m:=m) (st':=g'.at) hf hst hacc p q v
 have hreps:=fun ps qs vs=>RepPVs.wk (w:=w) (ok:=Free X ν g.at) (ok':=Free X (nuO ν m) g'.at) (ν:=ν) (g:=g) (m:=m) (st':=g'.at) hf hst hacc ps qs vs
 refine ⟨by rw [hs.size,wks_len h.s],fun t=>?_,fun i e' he=>?_,fun i j e e' b h1 h2 h3 h4 h5 h6=>?_,fun b hb=>hs.base b (hsub b hb),fun i hi=>?_,fun i hi=>?_,hs.zlt,hs.chg,hs.defs⟩
 ·exact wks_nth hrep h.s t _ (hs.sl t)
 ·rcases hat i e' he with ⟨k,e,k1,k2,k3⟩ | ⟨k1,t,rfl | rfl⟩
  ·have hen:=hs.en k e k2
   cases e' with
   | dead=>trivial
   | box ds=>
     cases e with
     | box cs=>
       obtain ⟨b,vs,T,q1,q2,q3,q4⟩:=hen
       simp only [wkE] at k3
       simp only [EnOk,nuO_some k1]
       exact ⟨b,vs,T,q1,q2,hreps cs ds vs k3 q3,q4⟩
     | acc t xs=>simp [wkE] at k3
     | tre t xs=>simp [wkE] at k3
     | dead=>simp [wkE] at k3
     | map kvs=>simp [wkE] at k3
   | acc t ys=>
     cases e with
     | acc t' xs=>
       simp only [wkE] at k3
       obtain ⟨rfl,rfl⟩:=k3
       obtain ⟨us,q1,q2,q3⟩:=hen
       simp only [EnOk,nuO_some k1]
       exact ⟨us,q1,q2.frame hf (Nat.le_refl _),q3⟩
     | box cs=>simp [wkE] at k3
     | dead=>simp [wkE] at k3
     | map kvs=>simp [wkE] at k3
     | tre t xs=>simp [wkE] at k3
   | tre t ys=>
     cases e with
     | acc t' xs=>
       simp only [wkE] at k3
       obtain ⟨rfl,rfl⟩:=k3
       obtain ⟨us,q1,q2,q3,q4⟩:=hen
       simp only [EnOk,TOk,nuO_some k1,q4,lift_len,List.append_nil]
       refine ⟨⟨us,[],q1,q2.hu,TRows.of_data (q2.frame hf (Nat.le_refl _)),q3,by simp⟩,?_⟩
       unfold hb
       split <;> simp
     | tre t' xs=>
       simp only [wkE] at k3
       obtain ⟨rfl,rfl,k4⟩:=k3
       simp only [EnOk,nuO_some k1]
       refine ⟨TOk.still (.own t' xs) _ _ ?_ (TOk.frame hf (Nat.le_refl _) (Mono.refl _ _) _ _ _ hen.1 fun _ _=>rfl),hen.2⟩
       simp only [T.frz]
       obtain ⟨zs,hz⟩:=Option.isSome_iff_exists.1 k4
       rw [hz]; rfl
     | box cs=>simp [wkE] at k3
     | dead=>simp [wkE] at k3
     | map kvs=>simp [wkE] at k3
   | map kvs'=>
     cases e with
     | map kvs=>
       simp only [wkE] at k3
       subst k3
       simp only [EnOk,nuO_some k1] at hen ⊢
       exact hen
     | box cs=>simp [wkE] at k3
     | acc t xs=>simp [wkE] at k3
     | tre t xs=>simp [wkE] at k3
     | dead=>simp [wkE] at k3
  ·simp only [EnOk,nuO_none k1]
   exact ⟨[],⟨by simp,.inl ⟨rfl,rfl⟩⟩,RepRows.nil _ _ _,by simp,trivial⟩
  ·simp only [EnOk,nuO_none k1,TOk]
   exact ⟨⟨[],[],⟨by simp,.inl ⟨rfl,rfl⟩⟩,by simp,by simp [TRows],by simp,rfl⟩,by simp [hb,blk]⟩
 ·rcases hat i e h1 with ⟨k,e1,k1,k2,k3⟩ | ⟨k1,t,rfl | rfl⟩
  ·rcases hat j e' h2 with ⟨l,e2,l1,l2,l3⟩ | ⟨l1,t,rfl | rfl⟩
   ·rw [nuO_some k1] at h5
    rw [nuO_some l1] at h6
    have:=hs.inj k l e1 e2 b k2 l2 (hlive _ _ k3 h3) (hlive _ _ l3 h4) h5 h6
    subst this
    exact lookL_inj h.nod k1 l1 h1 h2 h3 h4
   ·rw [nuO_none l1] at h6; simp [Nm.has,blk] at h6
   ·rw [nuO_none l1] at h6; simp [Nm.has,blk] at h6
  ·rw [nuO_none k1] at h5; simp [Nm.has,blk] at h5
  ·rw [nuO_none k1] at h5; simp [Nm.has,blk] at h5
 ·obtain ⟨e',he⟩:=Option.isSome_iff_exists.1 hi
  rcases hat i e' he with ⟨k,e,k1,k2,k3⟩ | ⟨k1,t,rfl | rfl⟩
  ·rw [nuO_some k1]; exact hs.nu k (by rw [k2]; rfl)
  ·rw [nuO_none k1]; rfl
  ·rw [nuO_none k1]; rfl
 ·have hlt:=hp i hi
  have hl:=keeps_spec h.keep i hlt
  rw [Nat.zero_add] at hl
  exact ⟨by rw [nuO_some hl]; exact (hs.par i hi).1,hst i _ hl⟩
end Go.Eng
namespace Go.Eng
open Go.RowKit
theorem Sat.newval {P:Program} {X:Cx} {ν:Nat → Nm} {g:G} {a:Act} {w w':World} (h:Sat P X ν g a w) (hchg:Chg (fun _=>False) w w') (d:Nat) (p:PV) (v:Value)
 (hv:(∀ b,w.heap.size ≤ b → Free X ν g.at b) → (∀ b,Free X ν g.at b → b < w.heap.size → Free X ν g.at b ∧ w'.heap[b]? = w.heap[b]?) → RepPV w' (Free X ν g.at) ν g.at p v) :
 Sat P X ν ⟨setN g.sl d p,g.st⟩ (a.put (some d) v) w':=by
 have hfree:∀ b,w.heap.size ≤ b → Free X ν g.at b:=fun b hb=>⟨fun ho=>by have:=h.lt ho; omega,fun hz=>by have:=(h.zlt b hz).1; have:=h.chg.size; omega⟩
 have hsame:∀ b,Free X ν g.at b → b < w.heap.size → Free X ν g.at b ∧ w'.heap[b]? = w.heap[b]?:=fun b hb hlt=>⟨hb,hchg.block b hlt (fun hf=>hf)⟩
 refine h.upd (g':=⟨setN g.sl d p,g.st⟩) (fun _=>False) hchg (fun _ hb=>hb.elim) (Mono.refl _ _) (fun k e he=>.inl ⟨he,rfl,fun _ _ _ hb=>hb⟩) (fun k e b he hl hb=>.inl ⟨k,e,he,hl,hb⟩) ?_ (fun k hk=>.inl hk) ?_ ?_ rfl
 ·intro k k' e e' b h1 h2 h3 h4 h5 h6
  exact h.inj k k' e e' b h1 h2 h3 h4 h5 h6
 ·simp [size_put,length_setN,h.size]
 ·intro t
  simp only [getD_put,nth_setN,h.size]
  by_cases hc:t = d ∧ d < g.sl.length
  ·simp only [hc,and_self,if_true]
   exact .inr (hv hfree hsame)
  ·simp only [hc,if_false]
   exact .inl ⟨trivial,trivial⟩
theorem foldl_set (off:Nat):∀ (l:List Value) (n:Nat) (cells:Array Value) (k:Nat),off + n + l.length ≤ cells.size →
 ((l.zipIdx n).foldl (fun cs (x:Value × Nat)=>cs.setIfInBounds (off + x.2) x.1) cells)[k]? = if off + n ≤ k ∧ k < off + n + l.length then l[k - (off + n)]? else cells[k]?
 | [],n,cells,k,_=>by
   have:¬ (off + n ≤ k ∧ k < off + n + 0):=by omega
   simp
   intro h1 h2; omega
 | c :: l,n,cells,k,hl=>by
   simp only [List.zipIdx_cons,List.foldl_cons]
   simp only [List.length_cons] at hl
   rw [foldl_set off l (n + 1) _ k (by simp; omega)]
   by_cases h1:off + (n + 1) ≤ k ∧ k < off + (n + 1) + l.length
   ·rw [if_pos h1,if_pos (by simp only [List.length_cons]; omega)]
    have:k - (off + n) = (k - (off + (n + 1))) + 1:=by omega
    rw [this]; simp
   ·rw [if_neg h1]
    by_cases h2:k = off + n
    ·subst h2
     have hlt:off + n < cells.size:=by omega
     rw [if_pos (by simp only [List.length_cons]; omega)]
     simp [hlt]
    ·rw [if_neg (by simp only [List.length_cons]; omega)]
     simp [Array.getElem?_setIfInBounds,show ¬ off + n = k from fun e=>h2 e.symm]
theorem fill_one (off:Nat) (l:List Value) (cells:Array Value) (hl:off + l.length ≤ cells.size) :
 (l.zipIdx.foldl (fun cs (x:Value × Nat)=>cs.setIfInBounds (off + x.2) x.1) cells).toList = cells.toList.take off ++ (l ++ cells.toList.drop (off + l.length)):=by
 apply List.ext_getElem?
 intro k
 have h:=foldl_set off l 0 cells k (by omega)
 simp only [Nat.add_zero] at h
 rw [Array.getElem?_toList,h]
 by_cases h1:k < off
 ·rw [if_neg (by omega),List.getElem?_append_left (by simp; omega),List.getElem?_take,if_pos h1]
  simp
 ·rw [List.getElem?_append_right (by simp; omega)]
  have e:(List.take off cells.toList).length = off:=by simp; omega
  rw [e]
  by_cases h2:k < off + l.length
  ·rw [if_pos (by omega),List.getElem?_append_left (by omega)]
  ·rw [if_neg (by omega),List.getElem?_append_right (by omega),List.getElem?_drop]
   have:off + l.length + (k - off - l.length) = k:=by omega
   rw [this]; simp
def fillP (places:List (Nat × Nat)) (cs:List PV):List (Nat × PV) → Option (List PV)
 | []=>some cs
 | (i,p) :: rest=>
   match places[i]? with
   | none=>none
   | some (off,sz)=>if p.whole = true ∧ (cellsPV p).length = sz ∧ off + sz ≤ cs.length then fillP places (splice cs off (cellsPV p)) rest else none
theorem fill_rep {w:World} {ok:Nat → Prop} {ν:Nat → Nm} {st:Nat → Option En} (hν:∀ k,(st k).isSome = true → (ν k).v.oneCell' = true) (places:List (Nat × Nat)) (ev:Operand → PV) (ρ:Operand → Value) (hev:∀ x,RepPV w ok ν st (ev x) (ρ x)) :
 ∀ (ps:List (Nat × Operand)) (cs:List PV) (cells:Array Value) (r:List PV),RepPVs w ok ν st cs cells.toList → fillP places cs (ps.map fun x=>(x.1,ev x.2)) = some r →
 ∃ cells',Instr.fill (places.toArray[·]?) cells (ps.map fun x=>(x.1,ρ x.2)) = some cells' ∧ RepPVs w ok ν st r cells'.toList
 | [],cs,cells,r,h,hr=>by
   simp only [List.map_nil,fillP,Option.some.injEq] at hr
   subst hr
   exact ⟨cells,rfl,h⟩
 | (i,x) :: ps,cs,cells,r,h,hr=>by
   simp only [List.map_cons,fillP] at hr
   split at hr
   ·cases hr
   ·rename_i off sz hpl
    split at hr
    ·rename_i hc
     obtain ⟨h1,h2,h3⟩:=hc
     have hx:=(hev x).cells h1 hν
     have hxl:=hx.length
     have hcl:=h.length
     have hxs:(ρ x).cells.size = sz:=by rw [← h2,← hxl]; simp
     have hcs:cells.size = cs.length:=by rw [← hcl]; simp
     have hone:=fill_one off (ρ x).cells.toList cells (by rw [hxl,hcs,h2]; exact h3)
     have hrep:RepPVs w ok ν st (splice cs off (cellsPV (ev x))) ((ρ x).cells.toList.zipIdx.foldl (fun cs (x:Value × Nat)=>cs.setIfInBounds (off + x.2) x.1) cells).toList:=by
      rw [hone,hxl]
      exact (h.take off).append (hx.append (h.drop _))
     obtain ⟨cells',k1,k2⟩:=fill_rep hν places ev ρ hev ps _ _ r hrep hr
     refine ⟨cells',?_,k2⟩
     simp only [List.map_cons,Instr.fill]
     have hpl':(places.toArray[i]?:Option (Nat × Nat)) = some (off,sz):=by simpa using hpl
     rw [hpl']
     simp only
     rw [if_neg (by simp only [hxs,hcs,ne_eq,not_true_eq_false,decide_false,Bool.false_or,decide_eq_true_eq]; omega)]
     rw [← k1]
     congr 1
     rw [← Array.foldl_toList,Array.toList_zipIdx]
    ·cases hr
section
variable {E:Env} {g:G} {d:Nat} {ty:TypeId} {pos:String} {aft:Array Edge} {gd:Option (Nat × Bool)} {dn:Option Nat}
theorem st_build (t:TypeId) (ps:List (Nat × Operand)) (ti:TI) (fs:List (Nat × Nat × Nat)) (r:List PV) (ht:E.ti t = some ti) (hty:ti.ty = .struct fs)
 (hr:fillP (fs.map fun x=>(x.2.1,x.2.2)) ti.zero (ps.map fun x=>(x.1,g.ev x.2)) = some r) :
 StS E.P ⟨some d,.build t ⟨ps⟩,ty,pos,aft,gd⟩ g ⟨ps.flatMap fun x=>sls x.2,[]⟩ ⟨some (d,.agg r),[]⟩:=by
 intro g2 hg
 have hmap:ps.map (fun x=>(x.1,g2.ev x.2)) = ps.map (fun x=>(x.1,g.ev x.2)):=by
  have:∀ (ps:List (Nat × Operand)),(∀ t ∈ ps.flatMap (fun x=>sls x.2),t ∈ ps.flatMap (fun x=>sls x.2)) → True:=fun _ _=>trivial
  apply List.map_congr_left
  intro x hx
  rw [hg.ev (x:=x.2) (fun t h=>List.mem_flatMap.2 ⟨x,hx,h⟩)]
 refine OpT.val rfl fun X ν a w hs=>?_
 obtain ⟨i,z,h1,h2,h4,h5,h6,h7⟩:=(E.ok t ti ht).info
 have hu:=(E.ok t ti ht).ty
 rw [hty] at hu
 obtain ⟨fields,hu,hpl,_⟩:=hu
 rw [← hmap] at hr
 obtain ⟨cells',k1,k2⟩:=fill_rep hs.nu (fs.map fun x=>(x.2.1,x.2.2)) g2.ev a.eval hs.ev ps ti.zero z.cells r (by rw [← h6]; exact rep_cpvs _ _ _ _ _) hr
 refine ⟨.agg cells',?_,by simp only [RepPV]; exact ⟨cells'.toList,rfl,k2⟩⟩
 have hb:E.P.built t (ps.map fun x=>(x.1,a.eval x.2)) = some cells':=by
  simp only [Program.built,h1,hu,h5,hpl,k1]
 have:=run_build (P:=E.P) w t ⟨ps.map fun x=>(x.1,a.eval x.2)⟩ cells' hb
 simp only [execOp,List.map_toArray,Sem.run_bind,this,Result.andThen_ok]
 rfl
def rowsOf:List PV → Option (List (List D))
 | []=>some []
 | p :: ps=>if p.whole = true then match toDs (cellsPV p),rowsOf ps with | some x,some xs=>some (x :: xs) | _,_=>none else none
def upTo:Nat → List Nat → Bool
 | _,[]=>true
 | i,j :: js=>i == j && upTo (i + 1) js
def allLen (n:Nat):List (List D) → Bool
 | []=>true
 | x :: xs=>x.length == n && allLen n xs
theorem fill_rows {w:World} {ok:Nat → Prop} {ν:Nat → Nm} {st:Nat → Option En} (hν:∀ k,(st k).isSome = true → (ν k).v.oneCell' = true) (sz:Nat) (ev:Operand → PV) (ρ:Operand → Value) (hev:∀ x,RepPV w ok ν st (ev x) (ρ x)) :
 ∀ (ps:List (Nat × Operand)) (i:Nat) (pre:List Value) (cells:Array Value) (rows:List (List D)),upTo i (ps.map (·.1)) = true → rowsOf (ps.map fun x=>ev x.2) = some rows → allLen sz rows = true → pre.length = i * sz → cells.toList.take (i * sz) = pre → cells.size = (i + ps.length) * sz →
 ∃ us:List (List Value),Instr.fill (fun i=>some (i * sz,sz)) cells (ps.map fun x=>(x.1,ρ x.2)) = some ⟨pre ++ us.flatten⟩ ∧ RepRows w ok sz rows us
 | [],i,pre,cells,rows,_,hr,_,hpl,hpre,hsz=>by
   simp only [List.map_nil,rowsOf,Option.some.injEq] at hr
   subst hr
   refine ⟨[],?_,RepRows.nil _ _ _⟩
   simp only [List.map_nil,Instr.fill,List.flatten_nil,List.append_nil]
   congr 1
   rw [← hpre,List.take_of_length_le (by rw [Array.length_toList,hsz]; exact Nat.le_refl _)]
 | (j,x) :: ps,i,pre,cells,rows,hup,hr,hlen,hpl,hpre,hsz=>by
   simp only [List.map_cons,upTo,Bool.and_eq_true,beq_iff_eq] at hup
   obtain ⟨rfl,hup⟩:=hup
   simp only [List.map_cons,rowsOf] at hr
   split at hr
   ·rename_i hwh
    split at hr
    ·rename_i row rows' hrow hrows
     obtain rfl:=Option.some.inj hr
     simp only [allLen,Bool.and_eq_true,beq_iff_eq] at hlen
     have hx:=(hev x).cells hwh hν
     have hxl:=hx.length
     have hd:=toDs_rep hx hrow
     obtain ⟨hd1,hd2⟩:=pvs_rep hd
     have hxs:(ρ x).cells.toList.length = sz:=by rw [hd1]; exact hlen.1
     simp only [List.length_cons] at hsz
     have hmul:(i + (ps.length + 1)) * sz = i * sz + (sz + ps.length * sz):=by rw [Nat.add_mul,Nat.add_mul]; omega
     have hone:=fill_one (i * sz) (ρ x).cells.toList cells (by rw [hxs,hsz,hmul]; omega)
     have hsz2:(((ρ x).cells.toList.zipIdx.foldl (fun cs (x:Value × Nat)=>cs.setIfInBounds (i * sz + x.2) x.1) cells)).size = (i + 1 + ps.length) * sz:=by
      rw [← Array.length_toList,hone]
      simp only [List.length_append,List.length_take,List.length_drop,Array.length_toList,hsz,hxs]
      rw [hmul,show i + 1 + ps.length = i + (ps.length + 1) by omega,hmul]
      omega
     obtain ⟨us,k1,k2⟩:=fill_rows hν sz ev ρ hev ps (i + 1) (pre ++ (ρ x).cells.toList) _ rows' hup hrows hlen.2 (by rw [List.length_append,hpl,hxs,Nat.add_mul]; omega)
      (by
       rw [hone,hpre,← List.append_assoc,List.take_append_of_le_length (by rw [List.length_append,hpl,hxs,Nat.add_mul]; omega)]
       rw [List.take_of_length_le (by rw [List.length_append,hpl,hxs,Nat.add_mul]; omega)]) hsz2
     refine ⟨(ρ x).cells.toList :: us,?_,k2.cons hlen.1 hxs hd2⟩
     have hxs':(ρ x).cells.size = sz:=by simpa using hxs
     simp only [List.map_cons,Instr.fill]
     rw [if_neg (by simp only [hxs',hsz,hmul,ne_eq,not_true_eq_false,decide_false,Bool.false_or,decide_eq_true_eq]; omega)]
     rw [List.flatten_cons,← List.append_assoc,← k1]
     congr 1
     rw [← Array.foldl_toList,Array.toList_zipIdx]
    ·cases hr
   ·cases hr
theorem run_lit {t e:Nat} {ti ei:TI} (ht:E.ti t = some ti) (hty:ti.ty = .slice e) (he:E.ti e = some ei) {X:Cx} {ν:Nat → Nm} {g2:G} {a:Act} {w:World} (hs:Sat E.P X ν g2 a w) (ps:List (Nat × Operand)) (rows:List (List D))
 (hup:upTo 0 (ps.map (·.1)) = true) (hr:rowsOf (ps.map fun x=>g2.ev x.2) = some rows) (hlen:allLen ei.n rows = true) (hbig:ps.length * ei.n ≤ 16777216) {o:Oper} (ho:o.op = .buildSlice t ps.length ⟨ps⟩) :
 ∃ us:List (List Value),(execOp a.eval o).run E.P w = .ok (.value (.slice (some ⟨w.heap.size,0,none⟩) ps.length ps.length)) (w.alloc (.cells ⟨us.flatten⟩ e)) ∧ RepRows w (Free X ν g2.at) ei.n rows us:=by
 obtain ⟨i,z,h1,h2,h4,h5,h6,h7⟩:=(E.ok e ei he).info
 have hu:=(E.ok t ti ht).ty
 rw [hty] at hu
 have hpos:=(E.ok e ei he).pos
 have hrowsl:∀ (qs:List PV) (rows:List (List D)),rowsOf qs = some rows → rows.length = qs.length:=by
  intro qs
  induction qs with
  | nil=>intro rows h; simp [rowsOf] at h; simp [← h]
  | cons q qs ih=>
    intro rows h
    simp only [rowsOf] at h
    split at h
    ·split at h
     ·rename_i h1 h2
      obtain rfl:=Option.some.inj h
      simp [ih _ h2]
     ·cases h
    ·cases h
 have hrl:=hrowsl _ _ hr
 simp only [List.length_map] at hrl
 have key:∀ init:Array Value,init.size = ps.length * ei.n → ∃ us:List (List Value),Instr.fill (fun i=>some (i * ei.n,ei.n)) init (ps.map fun x=>(x.1,a.eval x.2)) = some ⟨us.flatten⟩ ∧ RepRows w (Free X ν g2.at) ei.n rows us:=by
  intro init hi
  obtain ⟨us,k1,k2⟩:=fill_rows hs.nu ei.n g2.ev a.eval hs.ev ps 0 [] init rows hup hr hlen (by simp) (by simp) (by simpa using hi)
  exact ⟨us,by simpa using k1,k2⟩
 by_cases hz:ps.length * ei.n = 0
 ·obtain ⟨us,k1,k2⟩:=key ((Array.range 0).map fun _=>default) (by rw [Array.size_map,Array.size_range,hz])
  refine ⟨us,?_,k2⟩
  simp only [execOp,ho,List.map_toArray,Instr.buildSlice,Sem.run_bind,run_underlying hu,Result.andThen_ok,(E.ok e ei he).size w,hz]
  simp [k1,newRow]
 ·obtain ⟨us,k1,k2⟩:=key ((Array.range (ps.length * ei.n)).map (z.cells[· % z.cells.size]!)) (by simp)
  refine ⟨us,?_,k2⟩
  have hn:¬ ps.length * ei.n > 16777216:=by omega
  simp only [execOp,ho,List.map_toArray,Instr.buildSlice,Sem.run_bind,run_underlying hu,Result.andThen_ok,(E.ok e ei he).size w]
  simp [hn,hz,zeroValue,typeInfo,h1,h5,k1,newRow]
theorem rowsOf_len:∀ {qs:List PV} {rows:List (List D)},rowsOf qs = some rows → rows.length = qs.length
 | [],rows,h=>by simp [rowsOf] at h; simp [← h]
 | q :: qs,rows,h=>by
   simp only [rowsOf] at h
   split at h
   ·split at h
    ·rename_i h1 h2
     obtain rfl:=Option.some.inj h
     simp [rowsOf_len h2]
    ·cases h
   ·cases h
theorem alloc_cells (w:World) (us:List Value) (e:TypeId):CellsAt (w.alloc (.cells ⟨us⟩ e)) w.heap.size 0 us:=by
 intro j u hu
 simp only [World.cell?,heap_new,Nat.zero_add]
 simpa using hu
theorem st_lit_d (t e n:Nat) (ps:List (Nat × Operand)) (ti ei:TI) (rows:List (List D)) (ht:E.ti t = some ti) (hty:ti.ty = .slice e) (he:E.ti e = some ei) (hn:n = ps.length) (hup:upTo 0 (ps.map (·.1)) = true)
 (hr:rowsOf (ps.map fun x=>g.ev x.2) = some rows) (hlen:allLen ei.n rows = true) (hbig:ps.length * ei.n ≤ 16777216) :
 StS E.P ⟨some d,.buildSlice t n ⟨ps⟩,ty,pos,aft,gd⟩ g ⟨ps.flatMap fun x=>sls x.2,[]⟩ ⟨some (d,.d (.lst rows)),[]⟩:=by
 subst hn
 intro g2 hg
 have hmap:ps.map (fun x=>g2.ev x.2) = ps.map (fun x=>g.ev x.2):=by
  apply List.map_congr_left
  intro x hx
  rw [hg.ev (x:=x.2) (fun t h=>List.mem_flatMap.2 ⟨x,hx,h⟩)]
 rw [← hmap] at hr
 intro X ν a w next Q hs hnx
 obtain ⟨us,hrun,hrr⟩:=run_lit ht hty he hs ps rows hup hr hlen hbig (o:=⟨some d,.buildSlice t ps.length ⟨ps⟩,ty,pos,aft,gd⟩) rfl
 have hpos:=(E.ok e ei he).pos
 have hrl:=rowsOf_len hr
 simp only [List.length_map] at hrl
 have hle:ps.length ≤ 16777216:=Nat.le_trans (Nat.le_mul_of_pos_right _ hpos) hbig
 unfold Oper.wp
 rw [hrun,Oper.upon_value]
 refine hnx ν _ _ (hs.newval (w':=w.alloc (.cells ⟨us.flatten⟩ e)) (chg_alloc w _) d _ _ fun hfree hsame=>?_)
 simp only [RepPV]
 have hrr':=hrr.frame hsame (chg_alloc w _).size
 rw [← hrl]
 exact .lst rows us w.heap.size 0 rows.length ei.n (hfree _ (Nat.le_refl _)) (heap_lt (heap_new w _)) (Nat.le_refl _) (by simp only [maxLen]; omega) (by unfold LB; omega) hrr'.len hrr'.hx hrr'.hu (alloc_cells w _ e) hrr'.hr
theorem st_lit_acc (t e n k:Nat) (ps:List (Nat × Operand)) (ti ei:TI) (rows:List (List D)) (ht:E.ti t = some ti) (hty:ti.ty = .slice e) (he:E.ti e = some ei) (hn:n = ps.length) (hup:upTo 0 (ps.map (·.1)) = true)
 (hr:rowsOf (ps.map fun x=>g.ev x.2) = some rows) (hlen:allLen ei.n rows = true) (hbig:ps.length * ei.n ≤ 16777216) (hk:g.at k = none) :
 StS E.P ⟨some d,.buildSlice t n ⟨ps⟩,ty,pos,aft,gd⟩ g ⟨ps.flatMap fun x=>sls x.2,[k]⟩ ⟨some (d,.acc k),[(k,.acc e rows)]⟩:=by
 subst hn
 intro g2 hg
 have hmap:ps.map (fun x=>g2.ev x.2) = ps.map (fun x=>g.ev x.2):=by
  apply List.map_congr_left
  intro x hx
  rw [hg.ev (x:=x.2) (fun t h=>List.mem_flatMap.2 ⟨x,hx,h⟩)]
 have h3:=(hg.p k (by simp)).trans hk
 rw [← hmap] at hr
 intro X ν a w next Q hs hnx
 obtain ⟨us,hrun,hrr⟩:=run_lit ht hty he hs ps rows hup hr hlen hbig (o:=⟨some d,.buildSlice t ps.length ⟨ps⟩,ty,pos,aft,gd⟩) rfl
 have hpos:=(E.ok e ei he).pos
 have hrl:=rowsOf_len hr
 simp only [List.length_map] at hrl
 have hle:ps.length ≤ 16777216:=Nat.le_trans (Nat.le_mul_of_pos_right _ hpos) hbig
 unfold Oper.wp
 rw [hrun,Oper.upon_value]
 have hfl:=hrr.flat_len
 have hrow:=World.ownsRow_lit w (e:=e) (⟨us.flatten⟩:Array Value) rows.length (base:=0) (size:=ei.n) (Nat.zero_le _) (by simp only [maxLen]; omega) (by simpa using hfl)
 refine hnx _ _ _ (hs.newblk (chg_alloc w _) k h3 (.acc e rows) ⟨.slice (some ⟨w.heap.size,0,none⟩) ps.length ps.length,[]⟩ rfl (fun b hb=>?_) d _ _ ?_ ?_)
 ·obtain rfl:w.heap.size = b:=by simpa [Nm.has,blk] using hb
  exact Nat.le_refl _
 ·intro ok st ν' hν hw hm
  refine ⟨us,?_,?_,by unfold LB; omega,by rw [hν]⟩
  ·rw [hν,(E.ok e ei he).cells,← hrl]
   exact hrow
  ·rw [(E.ok e ei he).cells]
   exact hrr.frame hw (chg_alloc w _).size
 ·intro ok st ν' hν hst hw hm
  simp only [RepPV]
  exact ⟨by rw [hst]; rfl,by rw [hν]⟩
end
end Go.Eng
namespace Go.Eng
open Go.RowKit
def OI (g:G):Option Operand → Int → Int → Prop
 | none,dflt,i=>i = dflt
 | some x,_,i=>∃ k,g.ev x = .d (.val (.int k i))
def osl:Option Operand → List Nat
 | none=>[]
 | some x=>sls x
theorem OI.agree {R:Rd} {g g2:G} (h:Agree R g g2) {o:Option Operand} {a i:Int} (ho:∀ t ∈ osl o,t ∈ R.s) (hi:OI g o a i):OI g2 o a i:=by
 cases o with
 | none=>exact hi
 | some x=>
   obtain ⟨k,hk⟩:=hi
   exact ⟨k,(h.ev (x:=x) ho).trans hk⟩
theorem OI.value {P:Program} {X:Cx} {ν:Nat → Nm} {g:G} {a:Act} {w:World} (h:Sat P X ν g a w) {o:Option Operand} {d i:Int} (hi:OI g o d i):(o = none ∧ i = d) ∨ ∃ k,o.map a.eval = some (.int k i):=by
 cases o with
 | none=>exact .inl ⟨rfl,hi⟩
 | some x=>
   obtain ⟨k,hk⟩:=hi
   have hv:=h.ev x
   rw [hk] at hv
   exact .inr ⟨k,by simp [rep_val hv]⟩
theorem run_cut {P:Program} (w:World) {t e s:Nat} (hu:P.underlying t = some (.slice e)) (hs:∀ w,(sizeOf e).run P w = .ok s w) (a:Option Addr) (len cap:Nat) (lo hi:Option Value) (l h:Int)
 (hlo:(lo = none ∧ l = 0) ∨ ∃ k,lo = some (.int k l)) (hhi:(hi = none ∧ h = len) ∨ ∃ k,hi = some (.int k h)) (h0:0 ≤ l) (h1:l ≤ h) (h2:h ≤ len) (h3:len ≤ cap) :
 (Instr.sliceAt t (.slice a len cap) lo hi none).run P w = .ok (sliced a l.toNat h.toNat cap s) w:=by
 have hel:P.elem t = e:=by simp [Program.elem,hu]
 have ht:P.underlying t = some (.slice (P.elem t)):=by rw [hel]; exact hu
 rw [run_sliceAt_slice w t _ _ _ _ ht]
 have h2':h ≤ (cap:Int):=by omega
 rcases hlo with ⟨rfl,rfl⟩ | ⟨k,rfl⟩
 ·rcases hhi with ⟨rfl,rfl⟩ | ⟨k',rfl⟩
  ·rw [run_slice_all w t a len cap ht,hel,hs]
   simp [Result.andThen]
  ·rw [run_slice_h w t a len cap ht k' h (by omega) h2',hel,hs]
   simp [Result.andThen]
 ·rcases hhi with ⟨rfl,rfl⟩ | ⟨k',rfl⟩
  ·rw [run_slice_l w t a len cap ht k l h0 h1,hel,hs]
   simp [Result.andThen]
  ·rw [run_slice_lh w t a len cap ht k k' l h h0 h1 h2',hel,hs]
   simp [Result.andThen]
theorem run_cuts {P:Program} (w:World) {t:Nat} (hu:P.underlying t = some .string) (s:List UInt8) (lo hi:Option Value) (l h:Int)
 (hlo:(lo = none ∧ l = 0) ∨ ∃ k,lo = some (.int k l)) (hhi:(hi = none ∧ h = s.length) ∨ ∃ k,hi = some (.int k h)) (h0:0 ≤ l) (h1:l ≤ h) (h2:h ≤ s.length) :
 (Instr.sliceAt t (.string ⟨s.toArray⟩) lo hi none).run P w = .ok (.string ⟨((s.drop l.toNat).take (h.toNat - l.toNat)).toArray⟩) w:=by
 rw [run_sliceAt_string w t _ _ _ _ hu]
 have hsz:(⟨s.toArray⟩:ByteArray).size = s.length:=size_mk s
 rcases hlo with ⟨rfl,rfl⟩ | ⟨k,rfl⟩
 ·rcases hhi with ⟨rfl,rfl⟩ | ⟨k',rfl⟩
  ·rw [run_slice_string_all w t _ hu,ByteArray.extract_mk,hsz]
   simp
  ·rw [run_slice_string_h w t _ hu k' h (by omega) (by omega),ByteArray.extract_mk]
   simp
 ·rcases hhi with ⟨rfl,rfl⟩ | ⟨k',rfl⟩
  ·rw [run_slice_string_l w t _ hu k l h0 (by omega),ByteArray.extract_mk,hsz]
   simp
  ·rw [Go.run_slice_string w t _ k k' l h hu h0 h1 (by omega),ByteArray.extract_mk]
section
variable {E:Env} {g:G} {d:Nat} {ty:TypeId} {pos:String} {aft:Array Edge} {gd:Option (Nat × Bool)} {dn:Option Nat}
theorem flat_cut {sz:Nat}:∀ (us:List (List Value)) (l n:Nat),(∀ (i:Nat) (u:List Value),us[i]? = some u → u.length = sz) → l + n ≤ us.length → ((us.drop l).take n).flatten = (us.flatten.drop (l * sz)).take (n * sz)
 | [],l,n,_,h=>by
   have h1:l = 0:=by simp at h; omega
   have h2:n = 0:=by simp at h; omega
   subst h1 h2; simp
 | u :: us,0,n,hu,h=>by
   cases n with
   | zero=>simp
   | succ n=>
     have h0:u.length = sz:=hu 0 u rfl
     have ih:=flat_cut us 0 n (fun i x hx=>hu (i + 1) x (by simpa using hx)) (by simp at h; omega)
     simp only [List.drop_zero,Nat.zero_mul] at ih ⊢
     rw [List.take_succ_cons,List.flatten_cons,List.flatten_cons,ih,List.take_append]
     have e1:(n + 1) * sz - u.length = n * sz:=by rw [Nat.add_mul,h0]; omega
     rw [e1,List.take_of_length_le (l:=u) (by rw [h0,Nat.add_mul]; omega)]
 | u :: us,l + 1,n,hu,h=>by
   have h0:u.length = sz:=hu 0 u rfl
   have ih:=flat_cut us l n (fun i x hx=>hu (i + 1) x (by simpa using hx)) (by simp at h; omega)
   rw [List.drop_succ_cons,ih,List.flatten_cons]
   congr 1
   rw [List.drop_append,List.drop_of_length_le (l:=u) (by rw [h0,Nat.add_mul]; omega),List.nil_append]
   congr 1
   rw [Nat.add_mul,h0]; omega
theorem getElem?_cut {α:Type} (xs:List α) (l n i:Nat) (x:α) (h:((xs.drop l).take n)[i]? = some x):xs[l + i]? = some x:=by
 rw [List.getElem?_take] at h
 split at h
 ·rwa [List.getElem?_drop] at h
 ·cases h
theorem RepRows.cut {w:World} {ok:Nat → Prop} {sz:Nat} {xs:List (List D)} {us:List (List Value)} (h:RepRows w ok sz xs us) (l n:Nat):RepRows w ok sz ((xs.drop l).take n) ((us.drop l).take n):=by
 refine ⟨by simp [h.len],fun i x hx=>h.hx (l + i) x (getElem?_cut _ _ _ _ _ hx),fun i u hu=>h.hu (l + i) u (getElem?_cut _ _ _ _ _ hu),fun i j x u d v h1 h2 h3 h4=>h.hr (l + i) j x u d v (getElem?_cut _ _ _ _ _ h1) (getElem?_cut _ _ _ _ _ h2) h3 h4⟩
theorem st_cut_lst (x:Operand) (lo hi:Option Operand) (t e:Nat) (ti ei:TI) (xs r:List (List D)) (l h:Int) (ht:E.ti t = some ti) (hty:ti.ty = .slice e) (he:E.ti e = some ei) (hx:g.ev x = .d (.lst xs)) (hlo:OI g lo 0 l) (hhi:OI g hi xs.length h)
 (h0:0 ≤ l) (h1:l ≤ h) (h2:h ≤ xs.length) (hz:∀ y ∈ xs,y.length = ei.n) (hr:(xs.drop l.toNat).take (h.toNat - l.toNat) = r) :
 StS E.P ⟨some d,.slice t x lo hi none,ty,pos,aft,gd⟩ g ⟨sls x ++ (osl lo ++ osl hi),[]⟩ ⟨some (d,.d (.lst r)),[]⟩:=by
 subst hr
 intro g2 hg
 have e1:=hg.ev (x:=x) (fun t h=>by simp [h])
 have hlo2:=hlo.agree hg (fun t h=>by simp [h])
 have hhi2:=hhi.agree hg (fun t h=>by simp [h])
 refine OpT.val rfl fun X ν a w hs=>?_
 have hv:=hs.ev x
 rw [e1,hx] at hv
 simp only [RepPV] at hv ⊢
 have hu:=(E.ok t ti ht).ty
 rw [hty] at hu
 have hlv:(lo.map a.eval = none ∧ l = 0) ∨ ∃ k,lo.map a.eval = some (.int k l):=(hlo2.value hs).imp (fun h=>⟨by rw [h.1]; rfl,h.2⟩) id
 have hhv:(hi.map a.eval = none ∧ h = xs.length) ∨ ∃ k,hi.map a.eval = some (.int k h):=(hhi2.value hs).imp (fun h=>⟨by rw [h.1]; rfl,h.2⟩) id
 have hsize:=(E.ok e ei he).size
 obtain ⟨ln,rfl⟩:∃ n:Nat,l = n:=⟨l.toNat,by omega⟩
 obtain ⟨hn,rfl⟩:∃ n:Nat,h = n:=⟨h.toNat,by omega⟩
 simp only [Int.toNat_natCast]
 rcases hv.lst_inv with ⟨rfl,ea,ec,hvv,hemp⟩ | ⟨us,b,off,cap,sz,hvv,hok,hb,hcap,hmax,hB,hrr,hc⟩
 ·simp only [List.length_nil] at h2
  have hr:=run_cut (P:=E.P) w hu hsize ea 0 ec _ _ ln hn hlv hhv h0 h1 h2 (Nat.zero_le _)
  obtain rfl:hn = 0:=by omega
  obtain rfl:ln = 0:=by omega
  refine ⟨sliced ea 0 0 ec ei.n,?_,?_⟩
  ·simp only [execOp,hvv,Option.map_none,Sem.run_bind,hr,Result.andThen_ok]
   rfl
  ·simp only [List.drop_nil,List.take_nil]
   unfold sliced
   refine RepD.ofEmp ?_
   rcases hemp with ⟨rfl,rfl⟩ | ⟨k1,k2⟩
   ·exact .inl ⟨by simp,rfl⟩
   ·refine .inr ⟨?_,by omega⟩
    split
    ·exact k1
    ·rw [Option.isSome_map]
     exact k1
 ·have hr:=run_cut (P:=E.P) w hu hsize (some ⟨b,off,none⟩) xs.length cap _ _ ln hn hlv hhv h0 h1 h2 hcap
  simp only [Int.toNat_natCast] at hr
  have hsz:xs = [] ∨ sz = ei.n:=by
   cases xs with
   | nil=>exact .inl rfl
   | cons y ys=>right; rw [← hrr.hx 0 y rfl]; exact hz y (by simp)
  refine ⟨sliced (some ⟨b,off,none⟩) ln hn cap ei.n,?_,?_⟩
  ·simp only [execOp,hvv,Option.map_none,Sem.run_bind,hr,Result.andThen_ok]
   rfl
  ·have hlen:((xs.drop ln).take (hn - ln)).length = hn - ln:=by simp; omega
   have hrc:=hrr.cut ln (hn - ln)
   have hcl:=flat_cut us ln (hn - ln) hrr.hu (by rw [hrr.len]; omega)
   unfold sliced
   by_cases hcm:cap = ln
   ·rw [if_pos hcm]
    have:hn - ln = 0:=by omega
    rw [this] at hlen hrc ⊢
    simp only [List.take_zero] at hlen hrc ⊢
    exact .lst [] [] b off (cap - ln) sz hok hb (by simp) (by simp only [maxLen] at hmax ⊢; omega) (by simp) rfl (by simp) (by simp) (fun j u hu=>by simp at hu) (by simp)
   ·rw [if_neg hcm]
    have hsz':sz = ei.n ∨ ln = 0:=by
     rcases hsz with rfl | h
     ·right; simp at h2; omega
     ·exact .inl h
    have hoff:(⟨b,off,none⟩:Addr).add (ln * ei.n) = ⟨b,off + ln * sz,none⟩:=by
     rw [add_lit]
     rcases hsz' with h | h <;> rw [h]
     simp
    simp only [Option.map_some,hoff]
    have hres:=RepD.lst (w:=w) (ok:=Free X ν g2.at) ((xs.drop ln).take (hn - ln)) ((us.drop ln).take (hn - ln)) b (off + ln * sz) (cap - ln) sz hok hb (by rw [hlen]; omega) (by simp only [maxLen] at hmax ⊢; omega) (by rw [hlen]; omega) hrc.len hrc.hx hrc.hu
     (hc.sub (ln * sz) fun j u hu=>by
      rw [hcl] at hu
      exact getElem?_cut _ _ _ _ _ hu) hrc.hr
    rw [hlen] at hres
    exact hres
theorem st_cut_str (x:Operand) (lo hi:Option Operand) (t:Nat) (ti:TI) (s r:List UInt8) (l h:Int) (ht:E.ti t = some ti) (hty:ti.ty = .str) (hx:g.ev x = .d (.str s)) (hlo:OI g lo 0 l) (hhi:OI g hi s.length h)
 (h0:0 ≤ l) (h1:l ≤ h) (h2:h ≤ s.length) (hr:(s.drop l.toNat).take (h.toNat - l.toNat) = r) :
 StS E.P ⟨some d,.slice t x lo hi none,ty,pos,aft,gd⟩ g ⟨sls x ++ (osl lo ++ osl hi),[]⟩ ⟨some (d,.d (.str r)),[]⟩:=by
 subst hr
 intro g2 hg
 have e1:=hg.ev (x:=x) (fun t h=>by simp [h])
 have hlo2:=hlo.agree hg (fun t h=>by simp [h])
 have hhi2:=hhi.agree hg (fun t h=>by simp [h])
 refine OpT.val rfl fun X ν a w hs=>?_
 have hv:=hs.ev x
 rw [e1,hx] at hv
 obtain ⟨hv,hB⟩:=rep_str hv
 have hu:=(E.ok t ti ht).ty
 rw [hty] at hu
 have hlv:(lo.map a.eval = none ∧ l = 0) ∨ ∃ k,lo.map a.eval = some (.int k l):=(hlo2.value hs).imp (fun h=>⟨by rw [h.1]; rfl,h.2⟩) id
 have hhv:(hi.map a.eval = none ∧ h = s.length) ∨ ∃ k,hi.map a.eval = some (.int k h):=(hhi2.value hs).imp (fun h=>⟨by rw [h.1]; rfl,h.2⟩) id
 have hr:=run_cuts (P:=E.P) w hu s _ _ l h hlv hhv h0 h1 h2
 refine ⟨_,?_,by simp only [RepPV]; exact .str _ (by simp; omega)⟩
 simp only [execOp,hv,Option.map_none,Sem.run_bind,hr,Result.andThen_ok]
 rfl
def spl {α:Type} (cs:List α) (off:Nat) (vs:List α):List α:=cs.take off ++ (vs ++ cs.drop (off + vs.length))
theorem spl_len {α:Type} (cs vs:List α) (off:Nat) (h:off + vs.length ≤ cs.length):(spl cs off vs).length = cs.length:=by
 simp [spl]; omega
theorem spl_flat {sz:Nat}:∀ (us:List (List Value)) (i off:Nat) (vs rest:List Value),(∀ (i:Nat) (u:List Value),us[i]? = some u → u.length = sz) → i < us.length → off + vs.length ≤ sz →
 spl (us.flatten ++ rest) (i * sz + off) vs = (us.set i (spl (us.getD i []) off vs)).flatten ++ rest
 | [],i,_,_,_,_,h,_=>by simp at h
 | u :: us,0,off,vs,rest,hu,_,ho=>by
   have h0:u.length = sz:=hu 0 u rfl
   simp only [spl,Nat.zero_mul,Nat.zero_add,List.set_cons_zero,List.flatten_cons,List.getD_cons_zero,List.append_assoc]
   rw [List.take_append_of_le_length (by omega),List.drop_append_of_le_length (by omega)]
 | u :: us,i + 1,off,vs,rest,hu,hi,ho=>by
   have h0:u.length = sz:=hu 0 u rfl
   have ih:=spl_flat us i off vs rest (fun i x hx=>hu (i + 1) x (by simpa using hx)) (by simpa using hi) ho
   have e1:(i + 1) * sz + off = sz + (i * sz + off):=by rw [Nat.add_mul]; omega
   simp only [List.set_cons_succ,List.flatten_cons,List.getD_cons_succ,List.append_assoc]
   rw [← ih,e1]
   simp only [spl]
   have e2:List.take (sz + (i * sz + off)) (u ++ (us.flatten ++ rest)) = u ++ List.take (i * sz + off) (us.flatten ++ rest):=by
    rw [List.take_append,List.take_of_length_le (by omega),h0]
    congr 2; omega
   have e3:List.drop (sz + (i * sz + off) + vs.length) (u ++ (us.flatten ++ rest)) = List.drop (i * sz + off + vs.length) (us.flatten ++ rest):=by
    rw [List.drop_append,List.drop_of_length_le (by omega),List.nil_append,h0]
    congr 1; omega
   rw [e2,e3,List.append_assoc]
theorem getElem?_spl {α:Type} (cs vs:List α) (off j:Nat) (h:off + vs.length ≤ cs.length):(spl cs off vs)[j]? = if off ≤ j ∧ j < off + vs.length then vs[j - off]? else cs[j]?:=by
 unfold spl
 by_cases h1:j < off
 ·rw [if_neg (by omega),List.getElem?_append_left (by simp; omega),List.getElem?_take,if_pos h1]
 ·have e:(cs.take off).length = off:=by simp; omega
  rw [List.getElem?_append_right (by omega),e]
  by_cases h2:j < off + vs.length
  ·rw [if_pos (by omega),List.getElem?_append_left (by omega)]
  ·rw [if_neg (by omega),List.getElem?_append_right (by omega),List.getElem?_drop]
   congr 1; omega
theorem st_store_eptr (x y:Operand) (t k i off sz e:Nat) (ti ei:TI) (xs:List (List D)) (p:PV) (cs:List D) (ht:E.ti t = some ti) (he:E.ti e = some ei) (hsz:sz = ei.n) (hx:g.ev x = .eptr k i off sz) (hk:g.at k = some (.acc e xs)) (hy:g.ev y = p)
 (hi:i < xs.length) (hl:off + ti.n ≤ ei.n) (hp:p.whole = true) (hn:(cellsPV p).length = ti.n) (hcs:toDs (cellsPV p) = some cs) :
 StS E.P ⟨dn,.store t x y,ty,pos,aft,gd⟩ g ⟨sls x ++ sls y ++ dn.toList,[k]⟩ ⟨dn.map fun d=>(d,.undef),[(k,.acc e (xs.set i (spl (row xs i) off cs)))]⟩:=by
 intro g2 hg
 have e1:=hg.ev (x:=x) (fun t h=>by simp [h])
 have e2:=hg.ev (x:=y) (fun t h=>by simp [h])
 have h3:=(hg.p k (by simp)).trans hk
 intro X ν a w next Q hs hnx
 have hv:=hs.ev x
 rw [e1,hx] at hv
 have hw:=hs.ev y
 rw [e2,hy] at hw
 simp only [RepPV] at hv
 obtain ⟨_,b,n,c,hb,hv⟩:=hv
 obtain ⟨us,ho,hrr,hB,hf0⟩:=hs.en k _ h3
 have hcells:=hw.cells hp hs.nu
 have hlen:=hcells.length
 obtain ⟨hd1,hd2⟩:=pvs_rep (toDs_rep hcells hcs)
 rw [(E.ok e ei he).cells] at hrr ho
 subst hsz
 have hlast:=ho.2
 rcases hlast with ⟨h1,h2⟩ | ⟨b',cap,cur,h1,_,h2,h4,h5,h6,h7⟩
 ·omega
 ·rw [h1] at hb
  obtain ⟨rfl,rfl,rfl⟩:b' = b ∧ xs.length = n ∧ cap = c:=by simpa using hb
  have hul:us.length = xs.length:=hrr.len
  have hfl:=hrr.flat_len
  have hmulle:(i + 1) * ei.n ≤ xs.length * ei.n:=Nat.mul_le_mul_right _ hi
  have hmulle2:xs.length * ei.n ≤ cap * ei.n:=Nat.mul_le_mul_right _ h4
  have hadd:(i + 1) * ei.n = i * ei.n + ei.n:=by rw [Nat.add_mul]; omega
  have hone:∀ u ∈ (a.eval y).cells.toList,u.oneCell' = true:=by
   intro u hu
   obtain ⟨j,hj,rfl⟩:=List.getElem_of_mem hu
   have hjc:j < cs.length:=by rw [← hd1]; exact hj
   exact (hd2 j cs[j] _ (List.getElem?_eq_getElem hjc) (List.getElem?_eq_getElem hj)).one
  have hvl:(a.eval y).cells.toList.length = ti.n:=by rw [hlen,hn]
  have hrun:=run_storeVar (E.ok t ti ht) w b' (i * ei.n + off) e cur (a.eval y) h2 hvl (by omega) hone
  have hr:(execOp a.eval ⟨dn,.store t x y,ty,pos,aft,gd⟩).run E.P w = .ok .skip (w.setRow b' (cur.toList.take (i * ei.n + off) ++ (a.eval y).cells.toList ++ cur.toList.drop (i * ei.n + off + (a.eval y).cells.toList.length)).toArray):=by
   simp only [execOp,hv,Instr.storeAt,Instr.sureAddr,Sem.run_bind,Sem.run_pure,Result.andThen_ok,hrun]
  have hcur:cur.toList = us.flatten ++ cur.toList.drop (xs.length * ei.n):=by rw [← h7]; exact (List.take_append_drop _ _).symm
  have hnew:cur.toList.take (i * ei.n + off) ++ (a.eval y).cells.toList ++ cur.toList.drop (i * ei.n + off + (a.eval y).cells.toList.length) = (us.set i (spl (us.getD i []) off (a.eval y).cells.toList)).flatten ++ cur.toList.drop (xs.length * ei.n):=by
   have:=spl_flat us i off (a.eval y).cells.toList (cur.toList.drop (xs.length * ei.n)) hrr.hu (by omega) (by omega)
   rw [← hcur] at this
   rw [← this,List.append_assoc]
   rfl
  have hui:us[i]? = some (us.getD i []):=by
   have:i < us.length:=by omega
   simp [List.getD,List.getElem?_eq_getElem this]
  have hxi:xs[i]? = some (row xs i):=by simp [row,List.getD,List.getElem?_eq_getElem hi]
  have hxil:=hrr.hx i _ hxi
  have huil:=hrr.hu i _ hui
  have hrows:RepRows w (Free X ν g2.at) ei.n (xs.set i (spl (row xs i) off cs)) (us.set i (spl (us.getD i []) off (a.eval y).cells.toList)):=by
   refine ⟨by simp [hul],fun j z hz=>?_,fun j z hz=>?_,fun j l z u q v k1 k2 k3 k4=>?_⟩
   ·rw [List.getElem?_set] at hz
    by_cases hij:i = j
    ·subst hij
     rw [if_pos rfl,if_pos hi] at hz
     obtain rfl:=Option.some.inj hz
     rw [spl_len _ _ _ (by rw [hxil,← hd1,hvl]; exact hl),hxil]
    ·rw [if_neg hij] at hz
     exact hrr.hx j z hz
   ·rw [List.getElem?_set] at hz
    by_cases hij:i = j
    ·subst hij
     rw [if_pos rfl,if_pos (by omega)] at hz
     obtain rfl:=Option.some.inj hz
     rw [spl_len _ _ _ (by rw [huil,hvl]; exact hl),huil]
    ·rw [if_neg hij] at hz
     exact hrr.hu j z hz
   ·rw [List.getElem?_set] at k1 k2
    by_cases hij:i = j
    ·subst hij
     rw [if_pos rfl,if_pos hi] at k1
     rw [if_pos rfl,if_pos (by omega)] at k2
     obtain rfl:=Option.some.inj k1
     obtain rfl:=Option.some.inj k2
     rw [getElem?_spl _ _ _ _ (by rw [hxil,← hd1,hvl]; exact hl)] at k3
     rw [getElem?_spl _ _ _ _ (by rw [huil,hvl]; exact hl)] at k4
     rw [hd1] at k4
     by_cases hin:off ≤ l ∧ l < off + cs.length
     ·rw [if_pos hin] at k3 k4
      exact hd2 _ _ _ k3 k4
     ·rw [if_neg hin] at k3 k4
      exact hrr.hr i l _ _ q v hxi hui k3 k4
    ·rw [if_neg hij] at k1 k2
     exact hrr.hr j l z u q v k1 k2 k3 k4
  unfold Oper.wp
  rw [hr,Oper.upon_skip,hnew]
  refine hnx _ _ _ (hs.setent k (.acc e xs) (.acc e (xs.set i (spl (row xs i) off cs))) h3 rfl (chg_setRow w b' _ _ ((has_nil hf0).2 (by rw [h1]; rfl))) dn .undef Go.undef ?_ ?_)
  ·intro hwf hm
   refine ⟨us.set i (spl (us.getD i []) off (a.eval y).cells.toList),?_,?_,by simpa using hB,hf0⟩
   ·rw [(E.ok e ei he).cells,h1]
    have hf2:=hrows.flat_len
    refine ⟨hf2,.inr ⟨b',cap,_,by simp,Nat.zero_le _,setRow_heap w b' _ _ e _ h2,by simpa using h4,h5,?_,?_⟩⟩
    ·simp only [List.size_toArray,List.length_append,hf2,List.length_set,List.length_drop,Array.length_toList,h6]
     omega
    ·rw [List.take_append_of_le_length (by rw [hf2]; exact Nat.le_refl _),List.take_of_length_le (by rw [hf2]; exact Nat.le_refl _)]
   ·rw [(E.ok e ei he).cells]
    exact hrows.frame hwf (by simp [World.setRow])
  ·intro _
   simp only [RepPV]
def byD (ns:List Int):List (List D):=ns.map fun n=>[.val (.int .u8 n)]
def byS (ns:List Int):List UInt8:=ns.map fun n=>UInt8.ofNat n.toNat
end
end Go.Eng
namespace Go.Eng
open Go.RowKit
mutual
def sc:PV → Bool
 | .undef=>true
 | .nilS=>true
 | .d (.val _)=>true
 | .d (.str _)=>true
 | .agg cs=>scs cs
 | .tup cs=>scs cs
 | _=>false
def scs:List PV → Bool
 | []=>true
 | p :: ps=>sc p && scs ps
end
section
variable {w w':World} {ok ok':Nat → Prop} {ν ν':Nat → Nm} {st st':Nat → Option En}
mutual
theorem RepPV.sc:∀ (p:PV) (v:Value),sc p = true → RepPV w ok ν st p v → RepPV w' ok' ν' st' p v
 | .undef,v,_,h=>by simpa [RepPV] using h
 | .nilS,v,_,h=>by simpa [RepPV] using h
 | .d (.val u),v,_,h=>by
   simp only [RepPV] at h ⊢
   cases h with
   | val u h=>exact .val _ h
 | .d (.str u),v,_,h=>by
   simp only [RepPV] at h ⊢
   cases h with
   | str u h=>exact .str _ h
 | .agg cs,v,hs,h=>by
   simp only [Eng.sc] at hs
   simp only [RepPV] at h ⊢
   obtain ⟨vs,e,h⟩:=h
   exact ⟨vs,e,RepPVs.sc cs vs hs h⟩
 | .tup cs,v,hs,h=>by
   simp only [Eng.sc] at hs
   simp only [RepPV] at h ⊢
   obtain ⟨vs,e,h⟩:=h
   exact ⟨vs,e,RepPVs.sc cs vs hs h⟩
 | .any,_,hs,_=>by simp [Eng.sc] at hs
 | .d (.lst _),_,hs,_=>by simp [Eng.sc] at hs
 | .ptr _ _,_,hs,_=>by simp [Eng.sc] at hs
 | .acc _,_,hs,_=>by simp [Eng.sc] at hs
 | .eptr _ _ _ _,_,hs,_=>by simp [Eng.sc] at hs
 | .iptr _ _ _,_,hs,_=>by simp [Eng.sc] at hs
 | .fn _ _,_,hs,_=>by simp [Eng.sc] at hs
theorem RepPVs.sc:∀ (ps:List PV) (vs:List Value),scs ps = true → RepPVs w ok ν st ps vs → RepPVs w' ok' ν' st' ps vs
 | [],[],_,_=>by simp [RepPVs]
 | p :: ps,v :: vs,hs,h=>by
   simp only [Eng.scs,Bool.and_eq_true] at hs
   simp only [RepPVs] at h ⊢
   exact ⟨RepPV.sc p v hs.1 h.1,RepPVs.sc ps vs hs.2 h.2⟩
 | [],_ :: _,_,h=>by simp [RepPVs] at h
 | _ :: _,[],_,h=>by simp [RepPVs] at h
end
end
mutual
inductive Vw (g:G) (ks:List Nat):PV → PV → Prop where
 | same {p:PV} (h:p.lt 0 = true):Vw g ks p p
 | nil:Vw g ks .nilS (.d (.lst []))
 | acc {k:Nat} {e:TypeId} {xs:List (List D)} (h:memN k ks = true) (hk:g.at k = some (.acc e xs)):Vw g ks (.acc k) (.d (.lst xs))
 | tre {k:Nat} {e:TypeId} {xs:List (List T)} {ys:List (List D)} (h:memN k ks = true) (hk:g.at k = some (.tre e xs)) (hf:frzRows xs = some ys):Vw g ks (.acc k) (.d (.lst ys))
 | agg {cs ds:List PV} (h:Vws g ks cs ds):Vw g ks (.agg cs) (.agg ds)
 | fn {f:Nat} {cs ds:List PV} (h:Vws g ks cs ds):Vw g ks (.fn f cs) (.fn f ds)
 | box {k:Nat} {cs:List PV} {ds:List D} (h:memN k ks = true) (hk:g.at k = some (.box cs)) (hc:Vws g ks cs (pvs ds)):Vw g ks (.ptr k 0) (.iptr [ds] 0 0)
inductive Vws (g:G) (ks:List Nat):List PV → List PV → Prop where
 | nil:Vws g ks [] []
 | cons {p q:PV} {ps qs:List PV} (h:Vw g ks p q) (h':Vws g ks ps qs):Vws g ks (p :: ps) (q :: qs)
end
section
variable {g g2:G} {ks:List Nat}
mutual
theorem Vw.lt0 {p q:PV}:Vw g ks p q → q.lt 0 = true
 | .same h=>h
 | .nil=>rfl
 | .acc _ _=>rfl
 | .tre _ _ _=>rfl
 | .agg h=>by simp only [PV.lt]; exact Vws.lt0 h
 | .fn h=>by simp only [PV.lt]; exact Vws.lt0 h
 | .box _ _ _=>rfl
theorem Vws.lt0 {ps qs:List PV}:Vws g ks ps qs → lts 0 qs = true
 | .nil=>rfl
 | .cons h h'=>by simp only [lts,Bool.and_eq_true]; exact ⟨Vw.lt0 h,Vws.lt0 h'⟩
end
mutual
theorem Vw.agree (ha:∀ k ∈ ks,g2.at k = g.at k) {p q:PV}:Vw g ks p q → Vw g2 ks p q
 | .same h=>.same h
 | .nil=>.nil
 | .acc h hk=>.acc h ((ha _ (memN_iff.1 h)).trans hk)
 | .tre h hk hf=>.tre h ((ha _ (memN_iff.1 h)).trans hk) hf
 | .agg h=>.agg (Vws.agree ha h)
 | .fn h=>.fn (Vws.agree ha h)
 | .box h hk hc=>.box h ((ha _ (memN_iff.1 h)).trans hk) (Vws.agree ha hc)
theorem Vws.agree (ha:∀ k ∈ ks,g2.at k = g.at k) {ps qs:List PV}:Vws g ks ps qs → Vws g2 ks ps qs
 | .nil=>.nil
 | .cons h h'=>.cons (Vw.agree ha h) (Vws.agree ha h')
end
end
section
variable {P:Program} {X:Cx} {ν ν':Nat → Nm} {g:G} {a:Act} {w:World} {ok:Nat → Prop} {st:Nat → Option En} {ks:List Nat}
mutual
theorem RepPV.lt0 (hw:∀ b,Free X ν g.at b → b < w.heap.size → ok b ∧ w.heap[b]? = w.heap[b]?):∀ (p:PV) (v:Value),p.lt 0 = true → RepPV w (Free X ν g.at) ν g.at p v → RepPV w ok ν' st p v
 | .any,_,_,_=>by simp [RepPV]
 | .undef,_,_,h=>by simpa [RepPV] using h
 | .nilS,_,_,h=>by simpa [RepPV] using h
 | .d x,v,_,h=>by
   simp only [RepPV] at h ⊢
   exact h.frame hw (Nat.le_refl _)
 | .agg cs,v,hl,h=>by
   simp only [PV.lt] at hl
   simp only [RepPV] at h ⊢
   obtain ⟨vs,e,h⟩:=h
   exact ⟨vs,e,RepPVs.lt0 hw cs vs hl h⟩
 | .tup cs,v,hl,h=>by
   simp only [PV.lt] at hl
   simp only [RepPV] at h ⊢
   obtain ⟨vs,e,h⟩:=h
   exact ⟨vs,e,RepPVs.lt0 hw cs vs hl h⟩
 | .iptr xs i off,v,_,h=>by
   simp only [RepPV] at h ⊢
   obtain ⟨b,o,cap,h1,h2,h3⟩:=h
   exact ⟨b,o,cap,h1.frame hw (Nat.le_refl _),h2,h3⟩
 | .fn f cs,v,hl,h=>by
   simp only [PV.lt] at hl
   simp only [RepPV] at h ⊢
   obtain ⟨vs,e,h⟩:=h
   exact ⟨vs,e,RepPVs.lt0 hw cs vs hl h⟩
 | .ptr _ _,_,hl,_=>by simp [PV.lt] at hl
 | .acc _,_,hl,_=>by simp [PV.lt] at hl
 | .eptr _ _ _ _,_,hl,_=>by simp [PV.lt] at hl
theorem RepPVs.lt0 (hw:∀ b,Free X ν g.at b → b < w.heap.size → ok b ∧ w.heap[b]? = w.heap[b]?):∀ (ps:List PV) (vs:List Value),lts 0 ps = true → RepPVs w (Free X ν g.at) ν g.at ps vs → RepPVs w ok ν' st ps vs
 | [],[],_,_=>by simp [RepPVs]
 | p :: ps,v :: vs,hl,h=>by
   simp only [lts,Bool.and_eq_true] at hl
   simp only [RepPVs] at h ⊢
   exact ⟨RepPV.lt0 hw p v hl.1 h.1,RepPVs.lt0 hw ps vs hl.2 h.2⟩
 | [],_ :: _,_,h=>by simp [RepPVs] at h
 | _ :: _,[],_,h=>by simp [RepPVs] at h
end
theorem pvs_at {w:World} {ok:Nat → Prop} {ν:Nat → Nm} {st:Nat → Option En}:∀ {ds:List D} {vs:List Value},RepPVs w ok ν st (pvs ds) vs → ∀ (j:Nat) (d:D) (v:Value),ds[j]? = some d → vs[j]? = some v → RepD w ok d v
 | [],_,_,j,d,v,h,_=>by simp at h
 | _ :: _,[],h,_,_,_,_,_=>by simp [pvs,RepPVs] at h
 | e :: ds,u :: vs,h,0,d,v,h1,h2=>by
   simp only [pvs,List.map_cons,RepPVs,RepPV] at h
   obtain rfl:e = d:=by simpa using h1
   obtain rfl:u = v:=by simpa using h2
   exact h.1
 | e :: ds,u :: vs,h,j + 1,d,v,h1,h2=>by
   simp only [pvs,List.map_cons,RepPVs] at h
   exact pvs_at (ds:=ds) h.2 j d v (by simpa using h1) (by simpa using h2)
theorem row1 {w:World} {ok:Nat → Prop} {ν:Nat → Nm} {st:Nat → Option En} {b:Nat} {ds:List D} {vs:List Value} (hok:ok b) (hb:b < w.heap.size) (hc:CellsAt w b 0 vs) (h:RepPVs w ok ν st (pvs ds) vs) :
 RepD w ok (.lst [ds]) (.slice (some ⟨b,0,none⟩) [ds].length 1):=by
 have hl:vs.length = ds.length:=by simpa [pvs] using h.length
 refine .lst [ds] [vs] b 0 1 ds.length hok hb (by simp) (by unfold maxLen; omega) (by simp [LB]) rfl ?_ ?_ (by simpa using hc) ?_
 ·intro i x hx
  cases i with
  | zero=>obtain rfl:ds = x:=by simpa using hx
          rfl
  | succ i=>simp at hx
 ·intro i x hx
  cases i with
  | zero=>obtain rfl:vs = x:=by simpa using hx
          exact hl
  | succ i=>simp at hx
 ·intro i j x u d v h1 h2 h3 h4
  cases i with
  | zero=>
    obtain rfl:ds = x:=by simpa using h1
    obtain rfl:vs = u:=by simpa using h2
    exact pvs_at h j d v h3 h4
  | succ i=>simp at h1
mutual
theorem RepPV.vw (hs:Sat P X ν g a w) (hw:∀ b,Free X ν g.at b → b < w.heap.size → ok b ∧ w.heap[b]? = w.heap[b]?) (hown:∀ b,Own ν g.at b → ok b) {p q:PV}:∀ (v:Value),Vw g ks p q → RepPV w (Free X ν g.at) ν g.at p v → RepPV w ok ν' st q v
 | v,.same hl,h=>RepPV.lt0 hw _ v hl h
 | v,.nil,h=>by
   simp only [RepPV] at h ⊢
   rw [h]; exact .nil
 | v,.acc _ hk,h=>by
   simp only [RepPV] at h ⊢
   rw [h.2]
   obtain ⟨us,h1,h2,h3,_⟩:=hs.en _ _ hk
   exact acc_data h1 h2 h3 (fun b hb=>hown b ⟨_,_,hk,rfl,.inl hb⟩) hw
 | v,.tre (xs:=xs) (e:=e) _ hk hf,h=>by
   simp only [RepPV] at h ⊢
   rw [h.2]
   have hen:=hs.en _ _ hk
   exact TOk.data hw (.own e xs) _ _ _ (by simp only [T.frz,hf]) hen.1 fun b hb=>hown b ⟨_,_,hk,rfl,has_hb.2 hb⟩
 | v,.agg hc,h=>by
   simp only [RepPV] at h ⊢
   obtain ⟨vs,e,h⟩:=h
   exact ⟨vs,e,RepPVs.vw hs hw hown vs hc h⟩
 | v,.fn hc,h=>by
   simp only [RepPV] at h ⊢
   obtain ⟨vs,e,h⟩:=h
   exact ⟨vs,e,RepPVs.vw hs hw hown vs hc h⟩
 | v,.box _ hk hc,h=>by
   simp only [RepPV] at h ⊢
   obtain ⟨_,b,h1,h2⟩:=h
   obtain ⟨b',vs,T,h3,h4,h5,_⟩:=hs.en _ _ hk
   obtain rfl:b' = b:=by
    rw [h1] at h3
    simpa using h3.symm
   have h6:=RepPVs.vw hs hw hown vs hc h5
   refine ⟨b',0,1,row1 (hown b' ⟨_,_,hk,rfl,.inl (by rw [h1]; rfl)⟩) (heap_lt h4) (cellsAt_heap h4) h6,by simp,by rw [h2]; simp⟩
theorem RepPVs.vw (hs:Sat P X ν g a w) (hw:∀ b,Free X ν g.at b → b < w.heap.size → ok b ∧ w.heap[b]? = w.heap[b]?) (hown:∀ b,Own ν g.at b → ok b) {ps qs:List PV}:∀ (vs:List Value),Vws g ks ps qs → RepPVs w (Free X ν g.at) ν g.at ps vs → RepPVs w ok ν' st qs vs
 | [],.nil,_=>by simp [RepPVs]
 | v :: vs,.cons h1 h2,h=>by
   simp only [RepPVs] at h ⊢
   exact ⟨RepPV.vw hs hw hown v h1 h.1,RepPVs.vw hs hw hown vs h2 h.2⟩
 | _ :: _,.nil,h=>by simp [RepPVs] at h
 | [],.cons _ _,h=>by simp [RepPVs] at h
end
end
theorem op_look {P:Program} {o:Oper} {g:G} {fop:Operand} {xs:List Operand} {tys:Array TypeId} {d:Nat} (ho:o.op = .call ⟨.value fop,⟨xs⟩,tys⟩) (hd:o.dst = some d) {f:FuncId} {cap:List PV} (hfn:g.ev fop = .fn f cap)
 (ks:List Nat) (cargs:List PV) (R:PV → List (Option En) → Prop) (hC:C P f cargs [] R) (hargs:Vws g ks (xs.map g.ev ++ cap) cargs) (hR:∀ r s,R r s → sc r = true)
 (X:Cx) (ν:Nat → Nm) (a:Act) (w:World) (next:Act → World → Prop) (Q:Exit → Act → World → Prop) (hs:Sat P X ν g a w)
 (hn:∀ r s ν' a' w',R r s → Sat P X ν' ⟨setN g.sl d r,g.st⟩ a' w' → next a' w'):o.wp P a w next Q:=by
 have hfv:=hs.ev fop
 rw [hfn] at hfv
 simp only [RepPV] at hfv
 obtain ⟨vcap,hfv,hcap⟩:=hfv
 have hxs:=rep_evs hs xs
 let Xc:Cx:=⟨w,Own ν (ent []),ν,ent [],X.Z⟩
 have hno:∀ b,¬ Own ν (ent []) b:=by
  rintro b ⟨k,e,h,_⟩
  cases k <;> simp [ent] at h
 have hw:∀ b,Free X ν g.at b → b < w.heap.size → Free Xc ν (ent []) b ∧ w.heap[b]? = w.heap[b]?:=fun b hb _=>⟨⟨hno b,hb.2⟩,rfl⟩
 have hown:∀ b,Own ν g.at b → Free Xc ν (ent []) b:=fun b hb=>⟨hno b,hs.notZ hb⟩
 have hall:RepPVs w (Free Xc ν (ent [])) ν (ent []) cargs (xs.map a.eval ++ vcap):=RepPVs.vw hs hw hown _ hargs (hxs.app hcap)
 obtain ⟨⟨fn,hfn1,hfn2,hfn3⟩,hC⟩:=hC
 have hr:(execOp a.eval o).run P w = .ok (.enter f ⟨xs.map a.eval ++ vcap⟩) w:=by
  have n1 : ¬ fn.name = "runtime.NumGoroutine" := by simpa using hfn3
  have n2:¬ fn.body = none:=fun e=>by rw [e] at hfn2; cases hfn2
  simp [execOp,ho,resolve,hfv,Deferred.ofValue,invoke,callFunc,program,hfn1,n1,n2,Sem.run]
 have hat:∀ k,(⟨cargs,[]⟩:G).at k = none:=fun k=>by cases k <;> rfl
 have hent:Sat P Xc ν ⟨cargs,[]⟩ ⟨⟨xs.map a.eval ++ vcap⟩,[]⟩ w:=by
  refine ⟨by simpa using hall.length,fun t=>?_,fun k e h=>?_,fun k k' e e' b h=>?_,fun b hb=>?_,fun k h=>?_,fun k h=>?_,⟨fun b hb=>?_,hs.kt rfl fun b hb=>(hno b hb).elim⟩,Chg.refl _ w,rfl⟩
  ·have key:∀ (ps:List PV) (us:List Value) (t:Nat),RepPVs w (Free Xc ν (ent [])) ν (ent []) ps us → RepPV w (Free Xc ν (ent [])) ν (ent []) (nth ps t) (us.getD t Go.undef):=by
    intro ps
    induction ps with
    | nil=>intro us t _; cases t <;> simp [nth,RepPV]
    | cons p ps ih=>
      intro us t hr
      cases us with
      | nil=>simp [RepPVs] at hr
      | cons u us=>
        simp only [RepPVs] at hr
        cases t with
        | zero=>simpa [nth] using hr.1
        | succ t=>simpa [nth] using ih us t hr.2
   have:=key cargs _ t hall
   show RepPV w (Free Xc ν (ent [])) ν (ent []) (nth cargs t) ((⟨xs.map a.eval ++ vcap⟩:Array Value).getD t Go.undef)
   simpa [Array.getD_eq_getD_getElem?] using this
  ·rw [hat] at h; cases h
  ·rw [hat] at h; cases h
  ·exact (hno b hb).elim
  ·rw [hat] at h; cases h
  ·exact ⟨rfl,h⟩
  ·exact ⟨Nat.lt_of_lt_of_le (hs.zlt b hb).1 hs.chg.size,hno b⟩
 unfold Oper.wp
 rw [hr,Oper.upon_enter]
 refine (hC Xc (xs.map a.eval ++ vcap) rfl rfl hent).mono ?_
 rintro e w' ⟨v,res,st',ν',rfl,hRr,hsat⟩
 show next (a.put o.dst v) w'
 rw [hd]
 refine hn res st' ν _ _ hRr (hs.newval (hsat.chg.mono fun b hb _=>hno b hb) d res v fun _ _=>?_)
 have:=hsat.sl 0
 exact RepPV.sc res v (hR _ _ hRr) this
section
variable {E:Env} {g:G} {d:Nat} {ty:TypeId} {pos:String} {aft:Array Edge} {gd:Option (Nat × Bool)}
theorem st_look (fop:Operand) (xs:List Operand) (tys:Array TypeId) (f:FuncId) (cap:List PV) (hfn:g.ev fop = .fn f cap) (ks:List Nat) (cargs:List PV) (res:PV) (hC:C E.P f cargs [] (Eq2 res []))
 (hargs:Vws g ks (xs.map g.ev ++ cap) cargs) (hsc:sc res = true) :
 StS E.P ⟨some d,.call ⟨.value fop,⟨xs⟩,tys⟩,ty,pos,aft,gd⟩ g ⟨sls fop ++ xs.flatMap sls,ks⟩ ⟨some (d,res),[]⟩:=by
 intro g2 hg
 have e1:=hg.ev (x:=fop) (fun t h=>by simp [h])
 have e2:=evs_agree hg xs (fun t h=>by simp only [List.mem_append]; exact .inr h)
 intro X ν a w next Q hs hn
 refine op_look rfl rfl (by rw [e1,hfn]) ks cargs (Eq2 res []) hC (by rw [e2]; exact hargs.agree (fun k hk=>hg.p k hk)) (fun r s h=>by rw [h.1]; exact hsc) X ν a w next Q hs ?_
 rintro r s ν' a' w' ⟨rfl,rfl⟩ hs'
 exact hn ν' a' w' hs'
end
def Fin (E:Env) (rs:List ResultVar) (n0:Nat) (R:PV → List (Option En) → Prop) (g:G):Prop:=∃ g',Weak E.P n0 g g' ∧ Done E rs n0 R g'
theorem Fin.plain {E:Env} {rs:List ResultVar} {R:PV → List (Option En) → Prop} {g:G} (ps:List PV) (q:PV) (h1:ress E g rs = some ps) (h2:cv (oneRes ps) q) (hl:q.lt 0 = true) (hR:R q []):True:=trivial
end Go.Eng
namespace Go.Eng
open Go.RowKit
inductive Stp where
 | go (R:Rd) (δ:Dl)
 | need (φ:Prop) (R:Rd) (δ:Dl)
 | stop
def Stp.Ok (P:Program) (o:Oper) (g:G):Stp → Prop
 | .go R δ=>StS P o g R δ
 | .need φ R δ=>φ → StS P o g R δ
 | .stop=>True
def leN:Nat → Nat → Bool
 | 0,_=>true
 | _ + 1,0=>false
 | n + 1,m + 1=>leN n m
theorem leN_le:∀ {n m:Nat},leN n m = true → n ≤ m
 | 0,_,_=>Nat.zero_le _
 | n + 1,0,h=>by simp [leN] at h
 | n + 1,m + 1,h=>Nat.succ_le_succ (leN_le (by simpa [leN] using h))
def eqN:Nat → Nat → Bool
 | 0,0=>true
 | n + 1,m + 1=>eqN n m
 | _,_=>false
theorem eqN_eq:∀ {n m:Nat},eqN n m = true → n = m
 | 0,0,_=>rfl
 | n + 1,m + 1,h=>congrArg (· + 1) (eqN_eq (by simpa [eqN] using h))
 | 0,m + 1,h=>by simp [eqN] at h
 | n + 1,0,h=>by simp [eqN] at h
def lenD:List D → Nat
 | []=>0
 | _ :: as=>lenD as + 1
theorem lenD_eq:∀ (l:List D),lenD l = l.length
 | []=>rfl
 | _ :: as=>by simp [lenD,lenD_eq as]
theorem lenD_le {n:Nat} {l:List D} (h:leN n (lenD l) = true):n ≤ l.length:=by
 have:=leN_le h
 rwa [lenD_eq] at this
theorem lenD_is {n:Nat} {l:List D} (h:eqN (lenD l) n = true):l.length = n:=by
 have:=eqN_eq h
 rwa [lenD_eq] at this
def lenE:List (Option En) → Nat
 | []=>0
 | _ :: as=>lenE as + 1
theorem lenE_eq:∀ (l:List (Option En)),lenE l = l.length
 | []=>rfl
 | _ :: as=>by simp [lenE,lenE_eq as]
def lenP:List PV → Nat
 | []=>0
 | _ :: as=>lenP as + 1
theorem lenP_eq:∀ (l:List PV),lenP l = l.length
 | []=>rfl
 | _ :: as=>by simp [lenP,lenP_eq as]
def G.new (g:G):Nat:=lenE g.st
theorem G.new_none (g:G):g.at g.new = none:=ent_none (by unfold G.new; rw [lenE_eq]; exact Nat.le_refl _)
def tk:Nat → List PV → List PV
 | 0,_=>[]
 | _ + 1,[]=>[]
 | n + 1,a :: as=>a :: tk n as
theorem tk_eq:∀ (n:Nat) (l:List PV),tk n l = l.take n
 | 0,l=>by simp [tk]
 | n + 1,[]=>by simp [tk]
 | n + 1,a :: as=>by simp [tk,tk_eq n as]
def dr:Nat → List PV → List PV
 | 0,l=>l
 | _ + 1,[]=>[]
 | n + 1,_ :: as=>dr n as
theorem dr_eq:∀ (n:Nat) (l:List PV),dr n l = l.drop n
 | 0,l=>by simp [dr]
 | n + 1,[]=>by simp [dr]
 | n + 1,a :: as=>by simp [dr,dr_eq n as]
def over:List PV → List PV → List PV
 | cs,[]=>cs
 | [],vs=>vs
 | _ :: cs,v :: vs=>v :: over cs vs
def splc:List PV → Nat → List PV → List PV
 | cs,0,vs=>over cs vs
 | [],_ + 1,vs=>vs
 | c :: cs,n + 1,vs=>c :: splc cs n vs
theorem over_eq:∀ (cs vs:List PV),vs.length ≤ cs.length → over cs vs = vs ++ cs.drop vs.length
 | cs,[],_=>by cases cs <;> simp [over]
 | [],v :: vs,h=>by simp at h
 | c :: cs,v :: vs,h=>by simp [over,over_eq cs vs (by simpa using h)]
theorem splc_eq:∀ (cs:List PV) (n:Nat) (vs:List PV),n + vs.length ≤ cs.length → splc cs n vs = splice cs n vs
 | cs,0,vs,h=>by
   rw [Nat.zero_add] at h
   have e:splc cs 0 vs = over cs vs:=by cases cs <;> rfl
   rw [e,over_eq cs vs h]
   simp [splice]
 | [],n + 1,vs,h=>by simp at h
 | c :: cs,n + 1,vs,h=>by
   have:=splc_eq cs n vs (by simp at h; omega)
   simp only [splc,this,splice]
   rw [show n + 1 + vs.length = n + vs.length + 1 by omega]
   simp
def fget:List (Nat × Nat × Nat) → Nat → Option (Nat × Nat × Nat)
 | [],_=>none
 | a :: _,0=>some a
 | _ :: as,n + 1=>fget as n
theorem fget_eq:∀ (l:List (Nat × Nat × Nat)) (n:Nat),fget l n = l[n]?
 | [],n=>by simp [fget]
 | a :: as,0=>rfl
 | a :: as,n + 1=>by simp [fget,fget_eq as n]
def pget:List PV → Nat → Option PV
 | [],_=>none
 | a :: _,0=>some a
 | _ :: as,n + 1=>pget as n
theorem pget_eq:∀ (l:List PV) (n:Nat),pget l n = l[n]?
 | [],n=>by simp [pget]
 | a :: as,0=>rfl
 | a :: as,n + 1=>by simp [pget,pget_eq as n]
def pls:List (Nat × Nat × Nat) → List (Nat × Nat)
 | []=>[]
 | (_,o,s) :: r=>(o,s) :: pls r
theorem pls_eq:∀ (l:List (Nat × Nat × Nat)),pls l = l.map fun x=>(x.2.1,x.2.2)
 | []=>rfl
 | (a,o,s) :: r=>by simp [pls,pls_eq r]
def evp (g:G):List (Nat × Operand) → List (Nat × PV)
 | []=>[]
 | (i,x) :: r=>(i,g.ev x) :: evp g r
theorem evp_eq (g:G):∀ (l:List (Nat × Operand)),evp g l = l.map fun x=>(x.1,g.ev x.2)
 | []=>rfl
 | (i,x) :: r=>by simp [evp,evp_eq g r]
def ev2 (g:G):List (Nat × Operand) → List PV
 | []=>[]
 | (_,x) :: r=>g.ev x :: ev2 g r
theorem ev2_eq (g:G):∀ (l:List (Nat × Operand)),ev2 g l = l.map fun x=>g.ev x.2
 | []=>rfl
 | (i,x) :: r=>by simp [ev2,ev2_eq g r]
def ix2:List (Nat × Operand) → List Nat
 | []=>[]
 | (i,_) :: r=>i :: ix2 r
theorem ix2_eq:∀ (l:List (Nat × Operand)),ix2 l = l.map (·.1)
 | []=>rfl
 | (i,x) :: r=>by simp [ix2,ix2_eq r]
def sl2:List (Nat × Operand) → List Nat
 | []=>[]
 | (_,x) :: r=>sls x ++ sl2 r
theorem sl2_eq:∀ (l:List (Nat × Operand)),sl2 l = l.flatMap fun x=>sls x.2
 | []=>rfl
 | (i,x) :: r=>by simp [sl2,sl2_eq r]
def len2:List (Nat × Operand) → Nat
 | []=>0
 | _ :: r=>len2 r + 1
theorem len2_eq:∀ (l:List (Nat × Operand)),len2 l = l.length
 | []=>rfl
 | (i,x) :: r=>by simp [len2,len2_eq r]
def qget:List (Nat × Nat) → Nat → Option (Nat × Nat)
 | [],_=>none
 | a :: _,0=>some a
 | _ :: as,n + 1=>qget as n
theorem qget_eq:∀ (l:List (Nat × Nat)) (n:Nat),qget l n = l[n]?
 | [],n=>by simp [qget]
 | a :: as,0=>rfl
 | a :: as,n + 1=>by simp [qget,qget_eq as n]
def fillQ (places:List (Nat × Nat)) (cs:List PV):List (Nat × PV) → Option (List PV)
 | []=>some cs
 | (i,p) :: rest=>
   match qget places i with
   | none=>none
   | some (off,sz)=>match p.whole,Nat.beq (lenP (cellsPV p)) sz,leN (off + sz) (lenP cs) with
     | true,true,true=>fillQ places (splc cs off (cellsPV p)) rest
     | _,_,_=>none
theorem fillQ_P:∀ (rest:List (Nat × PV)) (places:List (Nat × Nat)) (cs r:List PV),fillQ places cs rest = some r → fillP places cs rest = some r
 | [],_,_,_,h=>h
 | (i,p) :: rest,places,cs,r,h=>by
   simp only [fillQ] at h
   simp only [fillP]
   split at h
   ·cases h
   ·rename_i off sz hpl
    rw [qget_eq] at hpl
    rw [hpl]
    simp only
    split at h
    ·rename_i h1 h2 h3
     have h2:lenP (cellsPV p) = sz:=Nat.eq_of_beq_eq_true h2
     rw [lenP_eq] at h2
     have h3:=leN_le h3
     rw [lenP_eq] at h3
     rw [if_pos ⟨h1,h2,h3⟩]
     rw [splc_eq _ _ _ (by omega)] at h
     exact fillQ_P rest places _ r h
    ·cases h
def i64 (p:PV):Option Int:=match p with | .d (.val (.int .i64 n))=>some n | _=>none
def iop (d:Nat) (R:Rd):BinOp → Int → Int → Stp
 | .add,m,n=>.need (I64 (m + n)) R ⟨some (d,.d (.val (.int .i64 (m + n)))),[]⟩
 | .sub,m,n=>.need (I64 (m - n)) R ⟨some (d,.d (.val (.int .i64 (m - n)))),[]⟩
 | .mul,m,n=>.need (I64 (m * n)) R ⟨some (d,.d (.val (.int .i64 (m * n)))),[]⟩
 | .quo,m,n=>.need (n ≠ 0 ∧ I64 (m.tdiv n)) R ⟨some (d,.d (.val (.int .i64 (m.tdiv n)))),[]⟩
 | .rem,m,n=>.need (n ≠ 0) R ⟨some (d,.d (.val (.int .i64 (m.tmod n)))),[]⟩
 | _,_,_=>.stop
def cop (d:Nat) (R:Rd):BinOp → Int → Int → Stp
 | .eql,m,n=>.go R ⟨some (d,.d (.val (.bool (m == n)))),[]⟩
 | .neq,m,n=>.go R ⟨some (d,.d (.val (.bool (m != n)))),[]⟩
 | .lss,m,n=>.go R ⟨some (d,.d (.val (.bool (decide (m < n))))),[]⟩
 | .leq,m,n=>.go R ⟨some (d,.d (.val (.bool (decide (m ≤ n))))),[]⟩
 | .gtr,m,n=>.go R ⟨some (d,.d (.val (.bool (decide (m > n))))),[]⟩
 | .geq,m,n=>.go R ⟨some (d,.d (.val (.bool (decide (m ≥ n))))),[]⟩
 | _,_,_=>.stop
def isCmp:BinOp → Bool
 | .eql=>true
 | .neq=>true
 | .lss=>true
 | .leq=>true
 | .gtr=>true
 | .geq=>true
 | _=>false
def sop (d:Nat) (R:Rd):BinOp → List UInt8 → List UInt8 → Stp
 | .add,l,m=>.need (l.length + m.length ≤ LB) R ⟨some (d,.d (.str (l ++ m))),[]⟩
 | .eql,l,m=>.go R ⟨some (d,.d (.val (.bool (l == m)))),[]⟩
 | .neq,l,m=>.go R ⟨some (d,.d (.val (.bool (!(l == m))))),[]⟩
 | .lss,l,m=>.go R ⟨some (d,.d (.val (.bool (Op.bytesLess l m)))),[]⟩
 | .leq,l,m=>.go R ⟨some (d,.d (.val (.bool (Op.bytesLess l m || l == m)))),[]⟩
 | .gtr,l,m=>.go R ⟨some (d,.d (.val (.bool (!(Op.bytesLess l m || l == m))))),[]⟩
 | .geq,l,m=>.go R ⟨some (d,.d (.val (.bool (!Op.bytesLess l m)))),[]⟩
 | _,_,_=>.stop
def ikEq:IntKind → IntKind → Bool
 | .i64,.i64=>true
 | .u8,.u8=>true
 | .u64,.u64=>true
 | .u32,.u32=>true
 | _,_=>false
theorem ikEq_eq {a b:IntKind} (h:ikEq a b = true):a = b:=by cases a <;> cases b <;> first | rfl | (cases h; done)
def bop (E:Env) (g:G) (d:Nat) (b:BinOp) (t:TypeId) (x y:Operand):Stp:=
 match g.ev x,g.ev y with
 | .d (.val (.int k m)),.d (.val (.int k' n))=>
   match ikEq k k' with
   | true=>match isCmp b with
     | true=>cop d ⟨sls x ++ sls y,[]⟩ b m n
     | false=>match ikEq k .i64 with
       | true=>iop d ⟨sls x ++ sls y,[]⟩ b m n
       | false=>.stop
   | false=>.stop
 | .d (.str l),.d (.str m)=>sop d ⟨sls x ++ sls y,[]⟩ b l m
 | .d (.val (.bool m)),.d (.val (.bool n))=>
   match E.ti t with
   | some ti=>match ti.ty,b with
     | .bool,.eql=>.go ⟨sls x ++ sls y,[]⟩ ⟨some (d,.d (.val (.bool (m == n)))),[]⟩
     | .bool,.neq=>.go ⟨sls x ++ sls y,[]⟩ ⟨some (d,.d (.val (.bool (!(m == n))))),[]⟩
     | _,_=>.stop
   | none=>.stop
 | _,_=>.stop
section
variable {E:Env} {g:G} {d:Nat} {ty:TypeId} {pos:String} {aft:Array Edge} {gd:Option (Nat × Bool)} {dn:Option Nat}
theorem iop_ok (b:BinOp) (m n:Int) (t u:TypeId) (x y:Operand) (hx:g.ev x = .d (.val (.int .i64 m))) (hy:g.ev y = .d (.val (.int .i64 n))) :
 (iop d ⟨sls x ++ sls y,[]⟩ b m n).Ok E.P ⟨some d,.binOp b t x y u,ty,pos,aft,gd⟩ g:=by
 cases b <;> first
  | exact fun h=>st_add x y m n t u hx hy h
  | exact fun h=>st_sub x y m n t u hx hy h
  | exact fun h=>st_mul x y m n t u hx hy h
  | exact fun h=>st_quo x y m n t u hx hy h.1 h.2
  | exact fun h=>st_rem x y m n t u hx hy h
  | exact trivial
theorem cop_ok (b:BinOp) (k:IntKind) (m n:Int) (t u:TypeId) (x y:Operand) (hx:g.ev x = .d (.val (.int k m))) (hy:g.ev y = .d (.val (.int k n))) :
 (cop d ⟨sls x ++ sls y,[]⟩ b m n).Ok E.P ⟨some d,.binOp b t x y u,ty,pos,aft,gd⟩ g:=by
 cases b <;> first
  | exact st_icmp _ x y k m n _ t u hx hy rfl
  | exact trivial
theorem sop_ok (b:BinOp) (l m:List UInt8) (t u:TypeId) (x y:Operand) (hx:g.ev x = .d (.str l)) (hy:g.ev y = .d (.str m)) :
 (sop d ⟨sls x ++ sls y,[]⟩ b l m).Ok E.P ⟨some d,.binOp b t x y u,ty,pos,aft,gd⟩ g:=by
 cases b <;> first
  | exact fun h=>st_cat x y l m t u hx hy h
  | exact st_scmp _ x y l m _ t u hx hy rfl
  | exact trivial
theorem bop_ok (b:BinOp) (t u:TypeId) (x y:Operand):(bop E g d b t x y).Ok E.P ⟨some d,.binOp b t x y u,ty,pos,aft,gd⟩ g:=by
 unfold bop
 split
 ·rename_i k m k' n hx hy
  split
  ·rename_i hk
   have hk:=ikEq_eq hk
   subst hk
   split
   ·exact cop_ok b _ m n t u x y hx hy
   ·split
    ·rename_i hk
     have hk:=ikEq_eq hk
     subst hk
     exact iop_ok b m n t u x y hx hy
    ·trivial
  ·trivial
 ·rename_i l m hx hy
  exact sop_ok b l m t u x y hx hy
 ·rename_i m n hx hy
  split
  ·rename_i ti ht
   split
   ·rename_i hty
    exact st_beq x y m n t u ti ht hty hx hy
   ·rename_i hty
    exact st_bne x y m n t u ti ht hty hx hy
   ·trivial
  ·trivial
 ·trivial
end
end Go.Eng
namespace Go.Eng
open Go.RowKit
def T.pv:T → PV
 | .leaf d=>.d d
 | .ref j=>.acc j
 | .own _ _=>.any
def pvT:List T → List PV
 | []=>[]
 | t :: ts=>t.pv :: pvT ts
def rwT (xs:List (List T)) (i:Nat):List T:=xs.getD i []
def noOwn:List T → Bool
 | []=>true
 | .own _ _ :: _=>false
 | _ :: ts=>noOwn ts
def noOwns:List (List T) → Bool
 | []=>true
 | x :: xs=>noOwn x && noOwns xs
def toT:PV → Option T
 | .d x=>some (.leaf x)
 | .nilS=>some (.leaf (.lst []))
 | .acc j=>some (.ref j)
 | _=>none
def toTs:List PV → Option (List T)
 | []=>some []
 | p :: ps=>match toT p,toTs ps with | some x,some xs=>some (x :: xs) | _,_=>none
def lenT:List T → Nat
 | []=>0
 | _ :: as=>lenT as + 1
theorem lenT_eq:∀ (l:List T),lenT l = l.length
 | []=>rfl
 | _ :: as=>by simp [lenT,lenT_eq as]
theorem rwT_at {xs:List (List T)} {i:Nat} (h:i < xs.length):xs[i]? = some (rwT xs i):=by simp [rwT,List.getD,List.getElem?_eq_getElem h]
section
variable {P:Program} {w:World} {ok:Nat → Prop} {ν:Nat → Nm} {st:Nat → Option En}
theorem TOk.pv {t:T} {v:Value} {F:List Nat} (h:TOk P w ok ν st t v F):RepPV w ok ν st t.pv v:=by
 cases t with
 | leaf d=>simp only [TOk] at h; simp only [T.pv,RepPV]; exact h.1
 | ref j=>simp only [TOk] at h; simp only [T.pv,RepPV]; exact ⟨h.1,h.2.1⟩
 | own e xs=>simp only [T.pv,RepPV]
theorem TCells.pv:∀ {ts:List T} {vs:List Value} {F:List Nat},TCells P w ok ν st ts vs F → RepPVs w ok ν st (pvT ts) vs
 | [],[],_,_=>by simp [pvT,RepPVs]
 | [],_ :: _,_,h=>by simp [TCells] at h
 | _ :: _,[],_,h=>by simp [TCells] at h
 | t :: ts,v :: vs,F,h=>by
   simp only [TCells] at h
   obtain ⟨F1,F2,h1,h2,_⟩:=h
   simp only [pvT,RepPVs]
   exact ⟨h1.pv,h2.pv⟩
theorem TOk.one {t:T} {v:Value} {F:List Nat} (h:TOk P w ok ν st t v F) (hν:∀ k,(st k).isSome = true → (ν k).v.oneCell' = true):v.oneCell' = true:=by
 cases t with
 | leaf d=>simp only [TOk] at h; exact h.1.one
 | ref j=>simp only [TOk] at h; rw [h.2.1]; exact hν j h.1
 | own e xs=>
   simp only [TOk] at h
   obtain ⟨us,F1,h1,_⟩:=h
   rcases h1.2 with ⟨h2,_⟩ | ⟨b,c,cur,h2,_⟩ <;> rw [h2] <;> rfl
theorem TCells.one (hν:∀ k,(st k).isSome = true → (ν k).v.oneCell' = true):∀ {ts:List T} {vs:List Value} {F:List Nat},TCells P w ok ν st ts vs F → ∀ v ∈ vs,v.oneCell' = true
 | [],[],_,_,v,hv=>by cases hv
 | [],_ :: _,_,h,_,_=>by simp [TCells] at h
 | _ :: _,[],_,h,_,_=>by simp [TCells] at h
 | t :: ts,v :: vs,F,h,u,hu=>by
   simp only [TCells] at h
   obtain ⟨F1,F2,h1,h2,_⟩:=h
   rcases List.mem_cons.1 hu with rfl | hu
   ·exact h1.one hν
   ·exact TCells.one hν h2 u hu
theorem TRows.one (hν:∀ k,(st k).isSome = true → (ν k).v.oneCell' = true):∀ {xs:List (List T)} {us:List (List Value)} {F:List Nat},TRows P w ok ν st xs us F → ∀ u ∈ us,∀ v ∈ u,v.oneCell' = true
 | [],[],_,_,v,hv=>by cases hv
 | [],_ :: _,_,h,_,_=>by simp [TRows] at h
 | _ :: _,[],_,h,_,_=>by simp [TRows] at h
 | t :: ts,v :: vs,F,h,u,hu=>by
   simp only [TRows] at h
   obtain ⟨F1,F2,h1,h2,_⟩:=h
   rcases List.mem_cons.1 hu with rfl | hu
   ·exact h1.one hν
   ·exact TRows.one hν h2 u hu
theorem TCells.len:∀ {ts:List T} {vs:List Value} {F:List Nat},TCells P w ok ν st ts vs F → vs.length = ts.length
 | [],[],_,_=>rfl
 | [],_ :: _,_,h=>by simp [TCells] at h
 | _ :: _,[],_,h=>by simp [TCells] at h
 | t :: ts,v :: vs,F,h=>by
   simp only [TCells] at h
   obtain ⟨F1,F2,_,h2,_⟩:=h
   simp [h2.len]
theorem TRows.len:∀ {ts:List (List T)} {vs:List (List Value)} {F:List Nat},TRows P w ok ν st ts vs F → vs.length = ts.length
 | [],[],_,_=>rfl
 | [],_ :: _,_,h=>by simp [TRows] at h
 | _ :: _,[],_,h=>by simp [TRows] at h
 | t :: ts,v :: vs,F,h=>by
   simp only [TRows] at h
   obtain ⟨F1,F2,_,h2,_⟩:=h
   simp [h2.len]
theorem TCells.append:∀ {x y:List T} {u v:List Value} {F G:List Nat},TCells P w ok ν st x u F → TCells P w ok ν st y v G → TCells P w ok ν st (x ++ y) (u ++ v) (F ++ G)
 | [],y,[],v,F,G,h,h'=>by simp only [TCells] at h; subst h; simpa using h'
 | [],_,_ :: _,_,_,_,h,_=>by simp [TCells] at h
 | _ :: _,_,[],_,_,_,h,_=>by simp [TCells] at h
 | t :: ts,y,a :: u,v,F,G,h,h'=>by
   simp only [TCells] at h
   obtain ⟨F1,F2,h1,h2,rfl⟩:=h
   simp only [List.cons_append,TCells]
   exact ⟨F1,F2 ++ G,h1,h2.append h',by rw [List.append_assoc]⟩
theorem TRows.append:∀ {x y:List (List T)} {u v:List (List Value)} {F G:List Nat},TRows P w ok ν st x u F → TRows P w ok ν st y v G → TRows P w ok ν st (x ++ y) (u ++ v) (F ++ G)
 | [],y,[],v,F,G,h,h'=>by simp only [TRows] at h; subst h; simpa using h'
 | [],_,_ :: _,_,_,_,h,_=>by simp [TRows] at h
 | _ :: _,_,[],_,_,_,h,_=>by simp [TRows] at h
 | t :: ts,y,a :: u,v,F,G,h,h'=>by
   simp only [TRows] at h
   obtain ⟨F1,F2,h1,h2,rfl⟩:=h
   simp only [List.cons_append,TRows]
   exact ⟨F1,F2 ++ G,h1,h2.append h',by rw [List.append_assoc]⟩
theorem TCells.split:∀ (n:Nat) {x:List T} {u:List Value} {F:List Nat},TCells P w ok ν st x u F → ∃ F1 F2,TCells P w ok ν st (x.take n) (u.take n) F1 ∧ TCells P w ok ν st (x.drop n) (u.drop n) F2 ∧ F = F1 ++ F2
 | 0,x,u,F,h=>⟨[],F,by simp [TCells],by simpa using h,rfl⟩
 | n + 1,[],[],F,h=>⟨[],F,by simp [TCells],by simpa using h,rfl⟩
 | _ + 1,[],_ :: _,_,h=>by simp [TCells] at h
 | _ + 1,_ :: _,[],_,h=>by simp [TCells] at h
 | n + 1,t :: ts,a :: u,F,h=>by
   simp only [TCells] at h
   obtain ⟨F1,F2,h1,h2,rfl⟩:=h
   obtain ⟨G1,G2,k1,k2,rfl⟩:=TCells.split n h2
   refine ⟨F1 ++ G1,G2,?_,by simpa using k2,by rw [List.append_assoc]⟩
   simp only [List.take_succ_cons,TCells]
   exact ⟨F1,G1,h1,k1,rfl⟩
theorem noOwn_F:∀ {x:List T} {u:List Value} {F:List Nat},TCells P w ok ν st x u F → noOwn x = true → F = []
 | [],[],F,h,_=>by simpa only [TCells] using h
 | [],_ :: _,_,h,_=>by simp [TCells] at h
 | _ :: _,[],_,h,_=>by simp [TCells] at h
 | t :: ts,a :: u,F,h,hn=>by
   simp only [TCells] at h
   obtain ⟨F1,F2,h1,h2,rfl⟩:=h
   cases t with
   | leaf d=>simp only [TOk] at h1; simp only [noOwn] at hn; rw [h1.2,noOwn_F h2 hn]; rfl
   | ref j=>simp only [TOk] at h1; simp only [noOwn] at hn; rw [h1.2.2,noOwn_F h2 hn]; rfl
   | own e xs=>simp [noOwn] at hn
theorem noOwns_F:∀ {x:List (List T)} {u:List (List Value)} {F:List Nat},TRows P w ok ν st x u F → noOwns x = true → F = []
 | [],[],F,h,_=>by simpa only [TRows] using h
 | [],_ :: _,_,h,_=>by simp [TRows] at h
 | _ :: _,[],_,h,_=>by simp [TRows] at h
 | t :: ts,a :: u,F,h,hn=>by
   simp only [TRows] at h
   obtain ⟨F1,F2,h1,h2,rfl⟩:=h
   simp only [noOwns,Bool.and_eq_true] at hn
   rw [noOwn_F h1 hn.1,noOwns_F h2 hn.2]
   rfl
theorem TRows.get:∀ (i:Nat) {xs:List (List T)} {us:List (List Value)} {F:List Nat},TRows P w ok ν st xs us F → i < xs.length →
 ∃ u G,us[i]? = some u ∧ TCells P w ok ν st (rwT xs i) u G ∧ ∀ (x':List T) (u':List Value),TCells P w ok ν st x' u' G → TRows P w ok ν st (xs.set i x') (us.set i u') F
 | _,[],_,_,_,hi=>by simp at hi
 | _,_ :: _,[],_,h,_=>by simp [TRows] at h
 | 0,x :: xs,u :: us,F,h,_=>by
   simp only [TRows] at h
   obtain ⟨F1,F2,h1,h2,rfl⟩:=h
   refine ⟨u,F1,rfl,h1,fun x' u' h'=>?_⟩
   simp only [List.set_cons_zero,TRows]
   exact ⟨F1,F2,h',h2,rfl⟩
 | i + 1,x :: xs,u :: us,F,h,hi=>by
   simp only [TRows] at h
   obtain ⟨F1,F2,h1,h2,rfl⟩:=h
   obtain ⟨u1,G,k1,k2,k3⟩:=TRows.get i h2 (by simpa using hi)
   refine ⟨u1,G,by simpa using k1,by simpa [rwT] using k2,fun x' u' h'=>?_⟩
   simp only [List.set_cons_succ,TRows]
   exact ⟨F1,F2,h1,k3 x' u' h',rfl⟩
theorem toTs_len:∀ {ps:List PV} {ts:List T},toTs ps = some ts → ts.length = ps.length
 | [],ts,h=>by simp [toTs] at h; simp [← h]
 | p :: ps,ts,h=>by
   simp only [toTs] at h
   split at h
   ·rename_i x xs h1 h2
    obtain rfl:=Option.some.inj h
    simp [toTs_len h2]
   ·cases h
theorem toTs_ok:∀ {ps:List PV} {ts:List T} {vs:List Value},RepPVs w ok ν st ps vs → toTs ps = some ts → TCells P w ok ν st ts vs []
 | [],ts,[],_,h=>by simp only [toTs,Option.some.injEq] at h; subst h; simp only [TCells]
 | [],_,_ :: _,h,_=>by simp [RepPVs] at h
 | _ :: _,_,[],h,_=>by simp [RepPVs] at h
 | p :: ps,ts,v :: vs,h,ht=>by
   simp only [toTs] at ht
   simp only [RepPVs] at h
   split at ht
   ·rename_i x xs h1 h2
    obtain rfl:=Option.some.inj ht
    simp only [TCells]
    refine ⟨[],[],?_,toTs_ok h.2 h2,rfl⟩
    have hp:=h.1
    cases p <;> simp only [toT] at h1 <;> first | (cases h1; done) | skip
    ·obtain rfl:=Option.some.inj h1
     simp only [RepPV] at hp
     subst hp
     simp only [TOk,and_true]
     exact .nil
    ·obtain rfl:=Option.some.inj h1
     simp only [RepPV] at hp
     simp only [TOk,and_true]
     exact hp
    ·obtain rfl:=Option.some.inj h1
     simp only [RepPV] at hp
     simp only [TOk,and_true]
     exact hp
   ·cases ht
theorem lift_ok:∀ {xs:List (List D)} {us:List (List Value)} {sz:Nat},RepRows w ok sz xs us → TRows P w ok ν st (lift xs) us []
 | [],us,sz,h=>by
   have:us = []:=List.eq_nil_of_length_eq_zero h.len
   subst this
   simp only [lift,List.map_nil,TRows]
 | x :: xs,[],sz,h=>by have:=h.len; simp at this
 | x :: xs,u :: us,sz,h=>by
   have h1:∀ (x:List D) (u:List Value),x.length = u.length → (∀ (j:Nat) (d:D) (v:Value),x[j]? = some d → u[j]? = some v → RepD w ok d v) → TCells P w ok ν st (x.map T.leaf) u []:=by
    intro x
    induction x with
    | nil=>intro u hl _; cases u with
      | nil=>simp [TCells]
      | cons a b=>simp at hl
    | cons d x ih=>intro u hl hr; cases u with
      | nil=>simp at hl
      | cons v u=>
        simp only [List.map_cons,TCells,TOk]
        exact ⟨[],[],⟨hr 0 d v rfl rfl,rfl⟩,ih u (by simpa using hl) fun j d' v' k1 k2=>hr (j + 1) d' v' (by simpa using k1) (by simpa using k2),rfl⟩
   have h2:RepRows w ok sz xs us:=⟨by simpa using h.len,fun i y hy=>h.hx (i + 1) y (by simpa using hy),fun i y hy=>h.hu (i + 1) y (by simpa using hy),fun i j y u d v k1 k2 k3 k4=>h.hr (i + 1) j y u d v (by simpa using k1) (by simpa using k2) k3 k4⟩
   have:=lift_ok h2
   simp only [lift,List.map_cons,TRows] at this ⊢
   exact ⟨[],[],h1 x u (by rw [h.hx 0 x rfl,h.hu 0 u rfl]) fun j d v k1 k2=>h.hr 0 j x u d v rfl rfl k1 k2,this,rfl⟩
theorem raw_rows {sz:Nat} {us:List (List Value)} (hu:∀ (i:Nat) (u:List Value),us[i]? = some u → u.length = sz) (h1:∀ u ∈ us,∀ v ∈ u,v.oneCell' = true):RepRows w ok sz (us.map fun u=>u.map D.val) us:=by
 refine ⟨by simp,fun i x hx=>?_,hu,fun i j x u d v k1 k2 k3 k4=>?_⟩
 ·rw [List.getElem?_map] at hx
  cases hq:us[i]? with
  | none=>rw [hq] at hx; cases hx
  | some u=>rw [hq] at hx; obtain rfl:=Option.some.inj hx; simp [hu i u hq]
 ·rw [List.getElem?_map,k2] at k1
  obtain rfl:=Option.some.inj k1
  rw [List.getElem?_map,k4] at k3
  obtain rfl:=Option.some.inj k3
  exact .val v (h1 u (List.mem_of_getElem? k2) v (List.mem_of_getElem? k4))
end
section
variable {P:Program} {X:Cx} {ν:Nat → Nm} {g:G} {a:Act} {w:World}
theorem tre_en (h:Sat P X ν g a w) {k e:Nat} {xs:List (List T)} (hk:g.at k = some (.tre e xs)):∃ us:List (List Value),w.ownsRow 0 e (P.cellsOf e) (ν k).v xs.length us.flatten ∧
 (∀ (i:Nat) (u:List Value),us[i]? = some u → u.length = P.cellsOf e) ∧ TRows P w (Free X ν g.at) ν g.at xs us (ν k).f ∧ xs.length ≤ LB ∧ (hb (ν k).v ++ (ν k).f).Nodup:=by
 obtain ⟨h1,h2⟩:=h.en k _ hk
 simp only [TOk] at h1
 obtain ⟨us,F1,k1,k2,k3,k4,k5⟩:=h1
 have:F1 = (ν k).f:=(List.append_cancel_left k5).symm
 exact ⟨us,k1,k2,this ▸ k3,k4,h2⟩
theorem en_tre {ok:Nat → Prop} {st:Nat → Option En} {k e:Nat} {xs:List (List T)} {us:List (List Value)} (h1:w.ownsRow 0 e (P.cellsOf e) (ν k).v xs.length us.flatten)
 (h2:∀ (i:Nat) (u:List Value),us[i]? = some u → u.length = P.cellsOf e) (h3:TRows P w ok ν st xs us (ν k).f) (h4:xs.length ≤ LB) (h5:(hb (ν k).v ++ (ν k).f).Nodup):EnOk P w ok ν st k (.tre e xs):=by
 refine ⟨?_,h5⟩
 simp only [TOk]
 exact ⟨us,(ν k).f,h1,h2,h3,h4,rfl⟩
theorem tre_value (h:Sat P X ν g a w) {k e:Nat} {xs:List (List T)} (hk:g.at k = some (.tre e xs)):∃ b c,(ν k).v = .slice b xs.length c:=by
 obtain ⟨us,ho,_⟩:=tre_en h hk
 rcases ho.2 with ⟨h1,h2⟩ | ⟨b,cap,cur,h1,_⟩
 ·exact ⟨none,0,by rw [h1,h2]⟩
 ·exact ⟨_,cap,h1⟩
theorem setE_setE:∀ (l:List (Option En)) (k:Nat) (x y:Option En),setE (setE l k x) k y = setE l k y
 | [],0,_,_=>rfl
 | [],n + 1,x,y=>by simp [setE,setE_setE [] n x y]
 | _ :: _,0,_,_=>rfl
 | a :: as,n + 1,x,y=>by simp [setE,setE_setE as n x y]
theorem Sat.lift (h:Sat P X ν g a w) {k e:Nat} {xs:List (List D)} (hk:g.at k = some (.acc e xs)):Sat P X ν ⟨g.sl,setE g.st k (some (.tre e (lift xs)))⟩ a w:=by
 have:=h.setent (w':=w) k (.acc e xs) (.tre e (Eng.lift xs)) hk rfl (Chg.refl _ w) none .undef Go.undef ?_ (fun h=>by cases h)
 ·exact this
 ·intro hw hm
  obtain ⟨us,ho,hrr,hB,hf0⟩:=h.en k _ hk
  have hl:(Eng.lift xs).length = xs.length:=by simp [Eng.lift]
  refine en_tre (us:=us) (by rw [hl]; exact ho) (fun i u hu=>hrr.hu i u hu) ?_ (by rw [hl]; exact hB) ?_
  ·rw [hf0]
   exact lift_ok (hrr.frame hw (Nat.le_refl _))
  ·rw [hf0,List.append_nil]
   unfold hb
   split <;> simp
end
end Go.Eng
namespace Go.Eng
open Go.RowKit
section
variable {E:Env} {g:G} {d:Nat} {ty:TypeId} {pos:String} {aft:Array Edge} {gd:Option (Nat × Bool)} {dn:Option Nat}
theorem st_load_tre (x:Operand) (t k i off sz e:Nat) (ti ei:TI) (xs:List (List T)) (ht:E.ti t = some ti) (he:E.ti e = some ei) (hsz:sz = ei.n) (hx:g.ev x = .eptr k i off sz) (hk:g.at k = some (.tre e xs))
 (hi:i < xs.length) (hl:off + ti.n ≤ (rwT xs i).length) :
 StS E.P ⟨some d,.load t x,ty,pos,aft,gd⟩ g ⟨sls x,[k]⟩ ⟨some (d,mkv ti.isAgg (((pvT (rwT xs i)).drop off).take ti.n)),[]⟩:=by
 intro g2 hg
 have h1:=hg.ev (x:=x) (fun t h=>h)
 have h3:=(hg.p k (by simp)).trans hk
 refine OpT.val rfl fun X ν a w hs=>?_
 have hv:=hs.ev x
 rw [h1,hx] at hv
 simp only [RepPV] at hv
 obtain ⟨_,b,n,c,hb,hv⟩:=hv
 obtain ⟨us,ho,hul,hr,_⟩:=tre_en hs h3
 have hcell:=ownsRow_cells ho hb
 rw [(E.ok e ei he).cells] at hul
 obtain ⟨u,G,hu,hc,_⟩:=hr.get i hi
 have hrep:=hc.pv
 have hlenu:=hc.len
 have hrep':=(hrep.drop off).take ti.n
 have hlen:((u.drop off).take ti.n).length = ti.n:=by simp; omega
 have hca:CellsAt w b (i * ei.n + off) ((u.drop off).take ti.n):=by
  have h0:=hcell.sub (us':=(u.drop off).take ti.n) (i * ei.n + off) (fun j x hx=>by
   rw [List.getElem?_take] at hx
   split at hx
   ·rw [List.getElem?_drop] at hx
    have:=flat_at us i (off + j) u x hul hu hx
    rw [Nat.add_assoc]; exact this
   ·cases hx)
  simpa using h0
 subst hsz
 obtain ⟨v,hrun,hvv⟩:=run_loadVar (E.ok t ti ht) w b _ _ hlen hca
 refine ⟨v,?_,rep_mkv hrep' hvv⟩
 simp only [execOp,hv,Instr.loadAt,Instr.sureAddr,Sem.run_bind,Sem.run_pure,Result.andThen_ok,hrun]
theorem st_idx_tre (x y:Operand) (s:Nat) (si ei:TI) (e k:Nat) (xs:List (List T)) (n:Int) (hs:E.ti s = some si) (hsy:si.ty = .slice e) (he:E.ti e = some ei) (hx:g.ev x = .acc k) (hk:g.at k = some (.tre e xs)) (hy:g.ev y = .d (.val (.int .i64 n)))
 (h0:0 ≤ n) (hlt:n.toNat < xs.length) :
 StS E.P ⟨some d,.indexAddr s x y,ty,pos,aft,gd⟩ g ⟨sls x ++ sls y,[k]⟩ ⟨some (d,.eptr k n.toNat 0 ei.n),[]⟩:=by
 intro g2 hg
 have h1:=hg.ev (x:=x) (fun t h=>by simp [h])
 have h2:=hg.ev (x:=y) (fun t h=>by simp [h])
 have h3:=(hg.p k (by simp)).trans hk
 refine OpT.val rfl fun X ν a w hs'=>?_
 have hu:=(E.ok s si hs).ty
 rw [hsy] at hu
 have hv:=hs'.ev x
 rw [h1,hx] at hv
 have hv2:=hs'.ev y
 rw [h2,hy] at hv2
 have hv2:=rep_val hv2
 simp only [RepPV] at hv ⊢
 obtain ⟨us,ho,_⟩:=tre_en hs' h3
 rcases ho.2 with ⟨_,hn⟩ | ⟨b,cap,cur,hb,_⟩
 ·omega
 ·have hlt':n < (xs.length:Int):=by omega
  refine ⟨.pointer (some ⟨b,n.toNat * ei.n,none⟩),?_,by rw [h3]; rfl,b,xs.length,cap,hb,rfl⟩
  simp [execOp,hv.2,hb,hv2,Instr.indexAt,asIntOf,run_underlying hu,h0,hlt',(E.ok e ei he).size,add_lit]
theorem st_len_tre (x:Operand) (s:Nat) (si:TI) (e' e k:Nat) (xs:List (List T)) (hs:E.ti s = some si) (hsy:si.ty = .slice e') (hx:g.ev x = .acc k) (hk:g.at k = some (.tre e xs)) :
 StS E.P ⟨some d,.call ⟨.builtin .len,#[x],#[s]⟩,ty,pos,aft,gd⟩ g ⟨sls x,[k]⟩ ⟨some (d,.d (.val (.int .i64 (xs.length:Int)))),[]⟩:=by
 intro g2 hg
 have h1:=hg.ev (x:=x) (fun t h=>h)
 have h3:=(hg.p k (by simp)).trans hk
 refine OpT.val rfl fun X ν a w hs'=>?_
 have hu:=(E.ok s si hs).ty
 rw [hsy] at hu
 have hv:=hs'.ev x
 rw [h1,hx] at hv
 simp only [RepPV] at hv
 obtain ⟨b,c,hb⟩:=tre_value hs' h3
 exact ⟨_,exec_len rfl a w _ (by rw [hv.2,hb]; exact run_len_slice hu _ _ _ _ _),rep_mk rfl⟩
theorem st_store_tre (x y:Operand) (t k i off sz e:Nat) (ti ei:TI) (xs:List (List T)) (p:PV) (cs:List T) (ht:E.ti t = some ti) (he:E.ti e = some ei) (hsz:sz = ei.n) (hx:g.ev x = .eptr k i off sz) (hk:g.at k = some (.tre e xs)) (hy:g.ev y = p)
 (hi:i < xs.length) (hl:off + ti.n ≤ ei.n) (hp:p.whole = true) (hn:(cellsPV p).length = ti.n) (hcs:toTs (cellsPV p) = some cs) (hno:noOwn (((rwT xs i).drop off).take ti.n) = true) :
 StS E.P ⟨dn,.store t x y,ty,pos,aft,gd⟩ g ⟨sls x ++ sls y ++ dn.toList,[k]⟩ ⟨dn.map fun d=>(d,.undef),[(k,.tre e (xs.set i (spl (rwT xs i) off cs)))]⟩:=by
 intro g2 hg
 have e1:=hg.ev (x:=x) (fun t h=>by simp [h])
 have e2:=hg.ev (x:=y) (fun t h=>by simp [h])
 have h3:=(hg.p k (by simp)).trans hk
 intro X ν a w next Q hs hnx
 have hv:=hs.ev x
 rw [e1,hx] at hv
 have hw:=hs.ev y
 rw [e2,hy] at hw
 simp only [RepPV] at hv
 obtain ⟨_,b,n,c,hb,hv⟩:=hv
 obtain ⟨us,ho,hul,hrr,hB,hnd⟩:=tre_en hs h3
 have hcells:=hw.cells hp hs.nu
 have hlen:=hcells.length
 have htc:=toTs_ok (P:=E.P) hcells hcs
 rw [(E.ok e ei he).cells] at hul ho
 subst hsz
 rcases ho.2 with ⟨h1,h2⟩ | ⟨b',cap,cur,h1,_,h2,h4,h5,h6,h7⟩
 ·omega
 ·rw [h1] at hb
  obtain ⟨rfl,rfl,rfl⟩:b' = b ∧ xs.length = n ∧ cap = c:=by simpa using hb
  have hull:us.length = xs.length:=hrr.len
  have hfl:=(raw_rows (w:=w) (ok:=fun _=>True) hul (hrr.one hs.nu)).flat_len
  rw [List.length_map] at hfl
  have hmulle:(i + 1) * ei.n ≤ xs.length * ei.n:=Nat.mul_le_mul_right _ hi
  have hmulle2:xs.length * ei.n ≤ cap * ei.n:=Nat.mul_le_mul_right _ h4
  have hadd:(i + 1) * ei.n = i * ei.n + ei.n:=by rw [Nat.add_mul]; omega
  have hone:∀ u ∈ (a.eval y).cells.toList,u.oneCell' = true:=htc.one hs.nu
  have hvl:(a.eval y).cells.toList.length = ti.n:=by rw [hlen,hn]
  have hrun:=run_storeVar (E.ok t ti ht) w b' (i * ei.n + off) e cur (a.eval y) h2 hvl (by omega) hone
  have hr:(execOp a.eval ⟨dn,.store t x y,ty,pos,aft,gd⟩).run E.P w = .ok .skip (w.setRow b' (cur.toList.take (i * ei.n + off) ++ (a.eval y).cells.toList ++ cur.toList.drop (i * ei.n + off + (a.eval y).cells.toList.length)).toArray):=by
   simp only [execOp,hv,Instr.storeAt,Instr.sureAddr,Sem.run_bind,Sem.run_pure,Result.andThen_ok,hrun]
  have hcur:cur.toList = us.flatten ++ cur.toList.drop (xs.length * ei.n):=by rw [← h7]; exact (List.take_append_drop _ _).symm
  have hnew:cur.toList.take (i * ei.n + off) ++ (a.eval y).cells.toList ++ cur.toList.drop (i * ei.n + off + (a.eval y).cells.toList.length) = (us.set i (spl (us.getD i []) off (a.eval y).cells.toList)).flatten ++ cur.toList.drop (xs.length * ei.n):=by
   have:=spl_flat us i off (a.eval y).cells.toList (cur.toList.drop (xs.length * ei.n)) hul (by omega) (by omega)
   rw [← hcur] at this
   rw [← this,List.append_assoc]
   rfl
  obtain ⟨u,G,hu,hc,hset⟩:=hrr.get i hi
  have hug:us.getD i [] = u:=by simp [List.getD,hu]
  have huil:=hul i u hu
  have hxil:(rwT xs i).length = ei.n:=by rw [← hc.len]; exact huil
  have hcsl:cs.length = ti.n:=by rw [toTs_len hcs,hn]
  obtain ⟨G1,G2,c1,c2,rfl⟩:=hc.split off
  obtain ⟨G3,G4,c3,c4,rfl⟩:=c2.split ti.n
  have hG3:G3 = []:=noOwn_F c3 hno
  subst hG3
  have hrow:=hset (spl (rwT xs i) off cs) (spl u off (a.eval y).cells.toList) (by
   unfold spl
   refine c1.append ?_
   refine htc.append ?_
   rw [List.drop_drop,List.drop_drop] at c4
   rw [hcsl,hvl]
   exact c4)
  rw [← hug] at hrow
  have hul':∀ (j:Nat) (z:List Value),(us.set i (spl (us.getD i []) off (a.eval y).cells.toList))[j]? = some z → z.length = ei.n:=by
   intro j z hz
   rw [List.getElem?_set] at hz
   by_cases hij:i = j
   ·subst hij
    rw [if_pos rfl,if_pos (by omega)] at hz
    obtain rfl:=Option.some.inj hz
    rw [hug,spl_len _ _ _ (by rw [huil,hvl]; exact hl),huil]
   ·rw [if_neg hij] at hz
    exact hul j z hz
  have hf2:=(raw_rows (w:=w) (ok:=fun _=>True) hul' (hrow.one hs.nu)).flat_len
  rw [List.length_map,List.length_set] at hf2
  have hbF:∀ b ∈ (ν k).f,b ≠ b':=by
   intro b hbf hbe
   rw [h1] at hnd
   exact (List.nodup_append.1 hnd).2.2 b' (mem_hb.2 rfl) b hbf hbe.symm
  unfold Oper.wp
  rw [hr,Oper.upon_skip,hnew]
  refine hnx _ _ _ (hs.setent k (.tre e xs) (.tre e (xs.set i (spl (rwT xs i) off cs))) h3 rfl (chg_setRow w b' _ _ (.inl (by rw [h1]; rfl))) dn .undef Go.undef ?_ ?_)
  ·intro hwf hm
   refine en_tre (us:=us.set i (spl (us.getD i []) off (a.eval y).cells.toList)) ?_ ?_ ?_ (by simpa using hB) hnd
   ·rw [(E.ok e ei he).cells,h1]
    rw [hull] at hfl hf2
    refine ⟨by rw [hf2,List.length_set],.inr ⟨b',cap,_,by simp,Nat.zero_le _,setRow_heap w b' _ _ e _ h2,by simpa using h4,h5,?_,?_⟩⟩
    ·simp only [List.size_toArray,List.length_append,hf2,List.length_drop,Array.length_toList,h6]
     omega
    ·rw [List.length_set,List.take_append_of_le_length (by rw [hf2]; exact Nat.le_refl _),List.take_of_length_le (by rw [hf2]; exact Nat.le_refl _)]
   ·rw [(E.ok e ei he).cells]; exact hul'
   ·refine hrow.frame hwf (by simp [World.setRow]) hm _ _ _ fun b hb=>?_
    have hne:=hbF b hb
    exact (chg_setRow w b' _ (fun c=>c = b') rfl).block b (hrr.lt _ _ _ b hb) hne
  ·intro _
   simp only [RepPV]
theorem noOwn_leaf:∀ (x:List D),noOwn (x.map T.leaf) = true
 | []=>rfl
 | d :: x=>by simp [noOwn,noOwn_leaf x]
theorem noOwn_sub:∀ {x:List T} (n m:Nat),noOwn x = true → noOwn ((x.drop n).take m) = true:=by
 have h1:∀ (x:List T) (n:Nat),noOwn x = true → noOwn (x.drop n) = true:=by
  intro x
  induction x with
  | nil=>intro n h; simpa using h
  | cons t x ih=>
    intro n h
    cases n with
    | zero=>exact h
    | succ n=>
      cases t with
      | own e xs=>simp [noOwn] at h
      | leaf d=>exact ih n (by simpa [noOwn] using h)
      | ref d=>exact ih n (by simpa [noOwn] using h)
 have h2:∀ (x:List T) (n:Nat),noOwn x = true → noOwn (x.take n) = true:=by
  intro x
  induction x with
  | nil=>intro n h; simpa using h
  | cons t x ih=>
    intro n h
    cases n with
    | zero=>rfl
    | succ n=>
      cases t with
      | own e xs=>simp [noOwn] at h
      | leaf d=>simpa [noOwn] using ih n (by simpa [noOwn] using h)
      | ref d=>simpa [noOwn] using ih n (by simpa [noOwn] using h)
 intro x n m h
 exact h2 _ m (h1 _ n h)
theorem rwT_lift (xs:List (List D)) (i:Nat):rwT (lift xs) i = (row xs i).map T.leaf:=by
 unfold rwT lift row
 simp only [List.getD_eq_getElem?_getD,List.getElem?_map]
 cases xs[i]? <;> rfl
theorem noOwns_lift:∀ (xs:List (List D)),noOwns (lift xs) = true
 | []=>rfl
 | x :: xs=>by
   have:=noOwns_lift xs
   simp only [lift,List.map_cons,noOwns,Bool.and_eq_true] at this ⊢
   exact ⟨noOwn_leaf x,this⟩
theorem st_store_acc (x y:Operand) (t k i off sz e:Nat) (ti ei:TI) (xs:List (List D)) (p:PV) (cs:List T) (ht:E.ti t = some ti) (he:E.ti e = some ei) (hsz:sz = ei.n) (hx:g.ev x = .eptr k i off sz) (hk:g.at k = some (.acc e xs)) (hy:g.ev y = p)
 (hi:i < xs.length) (hl:off + ti.n ≤ ei.n) (hp:p.whole = true) (hn:(cellsPV p).length = ti.n) (hcs:toTs (cellsPV p) = some cs) :
 StS E.P ⟨dn,.store t x y,ty,pos,aft,gd⟩ g ⟨sls x ++ sls y ++ dn.toList,[k]⟩ ⟨dn.map fun d=>(d,.undef),[(k,.tre e ((lift xs).set i (spl (rwT (lift xs) i) off cs)))]⟩:=by
 intro g2 hg X ν a w next Q hs hnx
 have e1:=hg.ev (x:=x) (fun t h=>by simp [h])
 have e2:=hg.ev (x:=y) (fun t h=>by simp [h])
 have h3:=(hg.p k (by simp)).trans hk
 have hs2:=hs.lift h3
 have hev:∀ z,(⟨g2.sl,setE g2.st k (some (.tre e (lift xs)))⟩:G).ev z = g2.ev z:=fun z=>by cases z <;> rfl
 refine st_store_tre (g:=⟨g2.sl,setE g2.st k (some (.tre e (lift xs)))⟩) x y t k i off sz e ti ei (lift xs) p cs ht he hsz (by rw [hev,e1]; exact hx) ?_ (by rw [hev,e2]; exact hy) (by rw [lift_len]; exact hi) hl hp hn hcs ?_ _ ⟨fun _ _=>rfl,fun _ _=>rfl⟩ X ν a w next Q hs2 ?_
 ·rw [at_setE,if_pos rfl]
 ·rw [rwT_lift]
  exact noOwn_sub _ _ (noOwn_leaf _)
 ·intro ν' a' w' h
  refine hnx ν' a' w' ?_
  simpa only [G.app,upE,setE_setE] using h
end
end Go.Eng
namespace Go.Eng
open Go.RowKit
section
variable {E:Env} {g:G} {d:Nat} {ty:TypeId} {pos:String} {aft:Array Edge} {gd:Option (Nat × Bool)} {dn:Option Nat}
def TArg (E:Env) (sz:Nat) (g:G) (p:PV) (ys:List (List T)):Prop:=
 (∃ ys',AppArg E sz g p ys' ∧ ys = lift ys') ∨ (∃ m e ei,p = .acc m ∧ g.at m = some (.tre e ys) ∧ E.ti e = some ei ∧ ei.n = sz ∧ noOwns ys = true)
theorem TArg.agree {R:Rd} {g g2:G} (h:Agree R g g2) {sz:Nat} {p:PV} {ys:List (List T)} (hp:∀ k ∈ apos p,k ∈ R.p) (ha:TArg E sz g p ys):TArg E sz g2 p ys:=by
 rcases ha with ⟨ys',h1,h2⟩ | ⟨m,e,ei,rfl,hk,he,hz⟩
 ·exact .inl ⟨ys',h1.agree h hp,h2⟩
 ·exact .inr ⟨m,e,ei,rfl,(h.p m (hp m (by simp [apos]))).trans hk,he,hz⟩
theorem targ_slice {X:Cx} {ν:Nat → Nm} {g:G} {a:Act} {w:World} {sz:Nat} {p:PV} {ys:List (List T)} {v:Value} (h:Sat E.P X ν g a w) (ha:TArg E sz g p ys) (hv:RepPV w (Free X ν g.at) ν g.at p v) :
 ∃ vs:List (List Value),TRows E.P w (Free X ν g.at) ν g.at ys vs [] ∧ (∀ (i:Nat) (u:List Value),vs[i]? = some u → u.length = sz) ∧ SliceAt w v vs ∧ ys.length ≤ LB:=by
 rcases ha with ⟨ys',h1,rfl⟩ | ⟨m,e,ei,rfl,hk,he,hz,hn⟩
 ·obtain ⟨vs,h2,h3,h4⟩:=appArg_slice (P0:=E.P) h h1 hv
  exact ⟨vs,lift_ok h2,h2.hu,h3,by rw [lift_len]; exact h4⟩
 ·simp only [RepPV] at hv
  obtain ⟨us,ho,hul,hrr,hB,hnd⟩:=tre_en h hk
  have hf:=noOwns_F hrr hn
  rw [hf] at hrr
  refine ⟨us,hrr,fun i u hu=>by rw [← hz,← (E.ok e ei he).cells]; exact hul i u hu,?_,hB⟩
  rw [hv.2]
  have hl:=hrr.len
  rcases ho.2 with ⟨h1,h2⟩ | ⟨b,cap,cur,h1,_⟩
  ·left
   refine ⟨⟨none,0,h1⟩,List.eq_nil_of_length_eq_zero (by rw [hl]; exact h2)⟩
  ·right
   exact ⟨b,0,cap,by rw [h1,hl],ownsRow_cells ho h1⟩
theorem hb_nodup {v:Value} {F:List Nat} (hF:F.Nodup) (h:∀ b,blk v = some b → b ∉ F):(hb v ++ F).Nodup:=by
 unfold hb
 cases hv:blk v with
 | none=>simpa using hF
 | some b=>simpa using ⟨h b hv,hF⟩
theorem row_one {w:World} {e sz n:Nat} {v:Value} {us:List Value} (h:w.ownsRow 0 e sz v n us):v.oneCell' = true:=by
 rcases h.2 with ⟨h,_⟩ | ⟨b,c,cur,h,_⟩ <;> rw [h] <;> rfl
theorem st_append_nilT (s x:Operand) (t e k':Nat) (ti ei:TI) (p:PV) (ys:List (List T)) (ht:E.ti t = some ti) (hty:ti.ty = .slice e) (he:E.ti e = some ei) (hs:g.ev s = .nilS) (hx:g.ev x = p) (ha:TArg E ei.n g p ys) (hk':g.at k' = none)
 (hlb:ys.length ≤ LB) (hby:ys.length * ei.bytes ≤ 140737488355328) :
 StS E.P ⟨some d,.call ⟨.builtin .append,#[s,x],#[t,t]⟩,ty,pos,aft,gd⟩ g ⟨sls s ++ sls x,k' :: apos p⟩ ⟨some (d,.acc k'),[(k',.tre e ys)]⟩:=by
 intro g2 hg
 have e1:=hg.ev (x:=s) (fun t h=>by simp [h])
 have e2:=hg.ev (x:=x) (fun t h=>by simp [h])
 have h3:=(hg.p k' (by simp)).trans hk'
 have ha2:=ha.agree hg (fun k h=>by simp [h])
 intro X ν a w next Q hsat hn
 have hv:=hsat.ev s
 rw [e1,hs] at hv
 have hv2:=hsat.ev x
 rw [e2,hx] at hv2
 simp only [RepPV] at hv
 obtain ⟨vs,htr,hul,hsl,_⟩:=targ_slice hsat ha2 hv2
 have hraw:=raw_rows (w:=w) (ok:=fun _=>True) hul (htr.one hsat.nu)
 have hl:=htr.len
 obtain ⟨v',w',k1,k2,k3,k4⟩:=run_append_all ht hty he w ty (.slice none 0 0) (a.eval x) 0 [] _ vs _ (World.ownsRow_nil w 0 e ei.n) hraw hsl (by simpa [hl] using hlb) (by simpa [hl] using hby)
 have hr:=exec_append (E:=E) (o:=⟨some d,.call ⟨.builtin .append,#[s,x],#[t,t]⟩,ty,pos,aft,gd⟩) rfl a w w' v' (by rw [hv]; exact k1)
 unfold Oper.wp
 rw [hr,Oper.upon_value]
 simp only [Nat.zero_add,List.nil_append,List.length_map,hl] at k2
 refine hn _ _ _ (hsat.newblk (k3.mono fun b hb _=>by simp [blk] at hb) k' h3 (.tre e ys) ⟨v',[]⟩ (row_one k2) (fun b hb=>(k4 b ((has_nil rfl).1 hb)).resolve_left (by simp [blk])) d _ _ ?_ ?_)
 ·intro ok st ν' hν hw hm
  refine en_tre (us:=vs) (by rw [hν,(E.ok e ei he).cells]; exact k2) (by rw [(E.ok e ei he).cells]; exact hul) ?_ hlb (by rw [hν]; exact hb_nodup List.nodup_nil (by simp))
  rw [hν]
  exact htr.frame hw k3.size hm _ _ _ (by simp)
 ·intro ok st ν' hν hst hw hm
  simp only [RepPV]
  exact ⟨by rw [hst]; rfl,by rw [hν]⟩
theorem st_append_treT (s x:Operand) (t e k k':Nat) (ti ei:TI) (p:PV) (xs ys:List (List T)) (ht:E.ti t = some ti) (hty:ti.ty = .slice e) (he:E.ti e = some ei) (hs:g.ev s = .acc k) (hk:g.at k = some (.tre e xs)) (hx:g.ev x = p) (ha:TArg E ei.n g p ys) (hk':g.at k' = none)
 (hlb:xs.length + ys.length ≤ LB) (hby:(xs.length + ys.length) * ei.bytes ≤ 140737488355328) :
 StS E.P ⟨some d,.call ⟨.builtin .append,#[s,x],#[t,t]⟩,ty,pos,aft,gd⟩ g ⟨sls s ++ sls x,k :: k' :: apos p⟩ ⟨some (d,.acc k'),[(k,.dead),(k',.tre e (xs ++ ys))]⟩:=by
 intro g2 hg
 have e1:=hg.ev (x:=s) (fun t h=>by simp [h])
 have e2:=hg.ev (x:=x) (fun t h=>by simp [h])
 have h2:=(hg.p k (by simp)).trans hk
 have h3:=(hg.p k' (by simp)).trans hk'
 have ha2:=ha.agree hg (fun k h=>by simp [h])
 intro X ν a w next Q hsat hn
 have hv:=hsat.ev s
 rw [e1,hs] at hv
 have hv2:=hsat.ev x
 rw [e2,hx] at hv2
 simp only [RepPV] at hv
 obtain ⟨vs,htr,hul,hsl,_⟩:=targ_slice hsat ha2 hv2
 have hraw:=raw_rows (w:=w) (ok:=fun _=>True) hul (htr.one hsat.nu)
 have hl:=htr.len
 obtain ⟨us,hown,huu,hru,hB,hnd⟩:=tre_en hsat h2
 rw [(E.ok e ei he).cells] at hown huu
 obtain ⟨v',w',k1,k2,k3,k4⟩:=run_append_all ht hty he w ty (ν k).v (a.eval x) xs.length us.flatten _ vs _ hown hraw hsl (by simpa [hl] using hlb) (by simpa [hl] using hby)
 have hr:=exec_append (E:=E) (o:=⟨some d,.call ⟨.builtin .append,#[s,x],#[t,t]⟩,ty,pos,aft,gd⟩) rfl a w w' v' (by rw [hv.2]; exact k1)
 unfold Oper.wp
 rw [hr,Oper.upon_value]
 simp only [List.length_map,hl] at k2
 have hnd2:=List.nodup_append.1 hnd
 have hnb:∀ b ∈ (ν k).f,blk (ν k).v ≠ some b:=fun b hb hc=>hnd2.2.2 b (mem_hb.2 hc) b hb rfl
 have hlt:∀ b ∈ (ν k).f,b < w.heap.size:=fun b hb=>hru.lt _ _ _ b hb
 refine hn _ _ _ (hsat.move (some k) (fun j hj=>⟨_,by obtain rfl:=Option.some.inj hj; exact h2,rfl⟩) (k3.mono fun b hb _=>⟨k,rfl,.inl hb⟩) k' h3 (.tre e (xs ++ ys)) ⟨v',(ν k).f⟩ (row_one k2)
  (fun b hb=>hb.elim (fun h=>(k4 b h).imp (fun h=>⟨k,rfl,.inl h⟩) id) fun h=>.inl ⟨k,rfl,.inr h⟩) d _ _ ?_ ?_)
 ·intro ok st ν' hν hw hm
  refine en_tre (us:=us ++ vs) ?_ ?_ ?_ (by simpa using hlb) ?_
  ·rw [hν,(E.ok e ei he).cells,List.length_append,List.flatten_append]; exact k2
  ·rw [(E.ok e ei he).cells]
   intro i u hu
   rcases Nat.lt_or_ge i us.length with hi | hi
   ·rw [List.getElem?_append_left hi] at hu; exact huu i u hu
   ·rw [List.getElem?_append_right hi] at hu; exact hul _ u hu
  ·rw [hν]
   have h1:=hru.frame hw k3.size hm _ _ _ fun b hb=>k3.block b (hlt b hb) (hnb b hb)
   have h2:=htr.frame hw k3.size hm _ _ _ (by simp)
   have:=h1.append h2
   rwa [List.append_nil] at this
  ·rw [hν]
   refine hb_nodup hnd2.2.1 fun b hb hm=>?_
   rcases k4 b hb with h | h
   ·exact hnb b hm h
   ·have:=hlt b hm; omega
 ·intro ok st ν' hν hst hw hm
  simp only [RepPV]
  exact ⟨by rw [hst]; rfl,by rw [hν]⟩
theorem st_append_accT (s x:Operand) (t e k k':Nat) (ti ei:TI) (p:PV) (xs:List (List D)) (ys:List (List T)) (ht:E.ti t = some ti) (hty:ti.ty = .slice e) (he:E.ti e = some ei) (hs:g.ev s = .acc k) (hk:g.at k = some (.acc e xs)) (hx:g.ev x = p) (ha:TArg E ei.n g p ys) (hk':g.at k' = none)
 (hlb:xs.length + ys.length ≤ LB) (hby:(xs.length + ys.length) * ei.bytes ≤ 140737488355328) :
 StS E.P ⟨some d,.call ⟨.builtin .append,#[s,x],#[t,t]⟩,ty,pos,aft,gd⟩ g ⟨sls s ++ sls x,k :: k' :: apos p⟩ ⟨some (d,.acc k'),[(k,.dead),(k',.tre e (lift xs ++ ys))]⟩:=by
 intro g2 hg X ν a w next Q hs' hnx
 have e1:=hg.ev (x:=s) (fun t h=>by simp [h])
 have e2:=hg.ev (x:=x) (fun t h=>by simp [h])
 have h3:=(hg.p k (by simp)).trans hk
 have h4:=(hg.p k' (by simp)).trans hk'
 have ha2:=ha.agree hg (fun k h=>by simp [h])
 have hs2:=hs'.lift h3
 have hev:∀ z,(⟨g2.sl,setE g2.st k (some (.tre e (lift xs)))⟩:G).ev z = g2.ev z:=fun z=>by cases z <;> rfl
 have hkk:k' ≠ k:=fun h=>by rw [h,h3] at h4; cases h4
 have ha3:TArg E ei.n ⟨g2.sl,setE g2.st k (some (.tre e (lift xs)))⟩ p ys:=by
  rcases ha2 with ⟨ys',h1,rfl⟩ | ⟨m,e',ei',rfl,hm,he',hz,hn⟩
  ·by_cases hp:p = .acc k
   ·subst hp
    rcases h1 with ⟨h,_⟩ | ⟨h,_⟩ | ⟨m,e',ei',h,hm,he',hz⟩ | ⟨_,_,h,_⟩
    ·cases h
    ·cases h
    ·obtain rfl:k = m:=by simpa using h
     rw [h3] at hm
     obtain ⟨rfl,rfl⟩:e = e' ∧ xs = ys':=by simpa using hm
     exact .inr ⟨k,e,ei',rfl,by rw [at_setE,if_pos rfl],he',hz,noOwns_lift _⟩
    ·cases h
   ·refine .inl ⟨ys',?_,rfl⟩
    rcases h1 with h | h | ⟨m,e',ei',h,hm,he',hz⟩ | h
    ·exact .inl h
    ·exact .inr (.inl h)
    ·exact .inr (.inr (.inl ⟨m,e',ei',h,by rw [at_setE,if_neg (fun hc=>hp (by rw [h,hc]))]; exact hm,he',hz⟩))
    ·exact .inr (.inr (.inr h))
  ·refine .inr ⟨m,e',ei',rfl,?_,he',hz,hn⟩
   rw [at_setE,if_neg (fun hc=>by rw [hc,h3] at hm; cases hm)]
   exact hm
 refine st_append_treT (g:=⟨g2.sl,setE g2.st k (some (.tre e (lift xs)))⟩) s x t e k k' ti ei p (lift xs) ys ht hty he (by rw [hev,e1]; exact hs) (by rw [at_setE,if_pos rfl]) (by rw [hev,e2]; exact hx) ha3 (by rw [at_setE,if_neg hkk]; exact h4)
  (by rw [lift_len]; exact hlb) (by rw [lift_len]; exact hby) _ ⟨fun _ _=>rfl,fun _ _=>rfl⟩ X ν a w next Q hs2 ?_
 intro ν' a' w' h
 refine hnx ν' a' w' ?_
 simpa only [G.app,upE,setE_setE] using h
def rwsT:List PV → Option (List (List T))
 | []=>some []
 | p :: ps=>match p.whole,toTs (cellsPV p),rwsT ps with
   | true,some x,some xs=>some (x :: xs)
   | _,_,_=>none
def allLenT (n:Nat):List (List T) → Bool
 | []=>true
 | x :: xs=>eqN (lenT x) n && allLenT n xs
theorem rwsT_len:∀ {qs:List PV} {rows:List (List T)},rwsT qs = some rows → rows.length = qs.length
 | [],rows,h=>by simp [rwsT] at h; simp [← h]
 | q :: qs,rows,h=>by
   simp only [rwsT] at h
   split at h
   ·rename_i h1 h2 h3
    obtain rfl:=Option.some.inj h
    simp [rwsT_len h3]
   ·cases h
def rawPV (v:Value):PV:=if (∀ u ∈ v.cells.toList,u.oneCell' = true) then (if v.oneCell' = true then .d (.val v) else .agg (v.cells.toList.map fun u=>.d (.val u))) else .any
theorem raw_d {w:World} {ok:Nat → Prop} {ν:Nat → Nm} {st:Nat → Option En}:∀ (cs:List Value),(∀ u ∈ cs,u.oneCell' = true) → RepPVs w ok ν st (cs.map fun u=>.d (.val u)) cs
 | [],_=>by simp [RepPVs]
 | u :: cs,h=>by
   simp only [List.map_cons,RepPVs,RepPV]
   exact ⟨.val u (h u (by simp)),raw_d cs fun u hu=>h u (by simp [hu])⟩
theorem toDs_raw:∀ (cs:List Value),toDs (cs.map fun u=>.d (.val u)) = some (cs.map D.val)
 | []=>rfl
 | u :: cs=>by simp [toDs,toD,toDs_raw cs]
theorem raw_rep {w:World} {ok:Nat → Prop} {ν:Nat → Nm} {st:Nat → Option En} (v:Value):RepPV w ok ν st (rawPV v) v:=by
 unfold rawPV
 by_cases h:∀ u ∈ v.cells.toList,u.oneCell' = true
 ·rw [if_pos h]
  by_cases h1:v.oneCell' = true
  ·rw [if_pos h1]
   simp only [RepPV]
   exact .val v h1
  ·rw [if_neg h1]
   cases v with
   | agg cs=>simp only [RepPV]; exact ⟨_,rfl,raw_d _ h⟩
   | _=>exact absurd (h _ (List.mem_singleton.2 rfl)) h1
 ·rw [if_neg h]
  simp only [RepPV]
theorem raw_row (v:Value) (h:∀ u ∈ v.cells.toList,u.oneCell' = true):(rawPV v).whole = true ∧ toDs (cellsPV (rawPV v)) = some (v.cells.toList.map D.val):=by
 unfold rawPV
 rw [if_pos h]
 by_cases h1:v.oneCell' = true
 ·rw [if_pos h1,cells_of_one h1]
  exact ⟨rfl,rfl⟩
 ·rw [if_neg h1]
  exact ⟨rfl,toDs_raw _⟩
theorem rows_raw (ρ:Operand → Value):∀ (ps:List (Nat × Operand)),(∀ x ∈ ps,∀ u ∈ (ρ x.2).cells.toList,u.oneCell' = true) → rowsOf (ps.map fun x=>rawPV (ρ x.2)) = some (ps.map fun x=>(ρ x.2).cells.toList.map D.val)
 | [],_=>rfl
 | x :: ps,h=>by
   obtain ⟨h1,h2⟩:=raw_row (ρ x.2) (h x (by simp))
   simp only [List.map_cons,rowsOf]
   rw [if_pos h1,h2,rows_raw ρ ps fun y hy=>h y (by simp [hy])]
theorem allLen_raw (ρ:Operand → Value) (n:Nat):∀ (ps:List (Nat × Operand)),(∀ x ∈ ps,(ρ x.2).cells.toList.length = n) → allLen n (ps.map fun x=>(ρ x.2).cells.toList.map D.val) = true
 | [],_=>rfl
 | x :: ps,h=>by
   have:=h x (by simp)
   simp only [List.map_cons,allLen,Bool.and_eq_true,List.length_map,beq_iff_eq]
   exact ⟨this,allLen_raw ρ n ps fun y hy=>h y (by simp [hy])⟩
theorem raw_eq {w:World} {ok:Nat → Prop} {sz:Nat} {vs us:List (List Value)} (hv:∀ v ∈ vs,v.length = sz) (h:RepRows w ok sz (vs.map fun u=>u.map D.val) us):us = vs:=by
 have hl:=h.len
 rw [List.length_map] at hl
 refine List.ext_getElem hl fun i h1 h2=>?_
 have e1:(vs.map fun u=>u.map D.val)[i]? = some (vs[i].map D.val):=by simp [List.getElem?_eq_getElem h2]
 have e2:=List.getElem?_eq_getElem h1
 have l1:=h.hu i _ e2
 have l2:=hv _ (List.getElem_mem h2)
 refine List.ext_getElem (by rw [l1,l2]) fun j h3 h4=>?_
 exact (h.hr i j _ _ (.val vs[i][j]) _ e1 e2 (by simp [List.getElem?_eq_getElem h4]) (List.getElem?_eq_getElem h3)).val_inv
theorem run_litT {t e:Nat} {ti ei:TI} (ht:E.ti t = some ti) (hty:ti.ty = .slice e) (he:E.ti e = some ei) (a:Act) (w:World) (ps:List (Nat × Operand)) (hup:upTo 0 (ps.map (·.1)) = true)
 (h1:∀ x ∈ ps,∀ u ∈ (a.eval x.2).cells.toList,u.oneCell' = true) (h2:∀ x ∈ ps,(a.eval x.2).cells.toList.length = ei.n) (hbig:ps.length * ei.n ≤ 16777216) {o:Oper} (ho:o.op = .buildSlice t ps.length ⟨ps⟩) :
 (execOp a.eval o).run E.P w = .ok (.value (.slice (some ⟨w.heap.size,0,none⟩) ps.length ps.length)) (w.alloc (.cells ⟨(ps.map fun x=>(a.eval x.2).cells.toList).flatten⟩ e)):=by
 obtain ⟨i,z,k1,k2,k4,k5,k6,k7⟩:=(E.ok e ei he).info
 have hu:=(E.ok t ti ht).ty
 rw [hty] at hu
 have hpos:=(E.ok e ei he).pos
 have key:∀ init:Array Value,init.size = ps.length * ei.n → Instr.fill (fun i=>some (i * ei.n,ei.n)) init (ps.map fun x=>(x.1,a.eval x.2)) = some ⟨(ps.map fun x=>(a.eval x.2).cells.toList).flatten⟩:=by
  intro init hi
  obtain ⟨us,m1,m2⟩:=fill_rows (w:=w) (ok:=fun _=>True) (ν:=fun _=>⟨.bool false,[]⟩) (st:=fun _=>none) (fun _ h=>by cases h) ei.n (fun x=>rawPV (a.eval x)) a.eval (fun x=>raw_rep _) ps 0 [] init _ hup (rows_raw a.eval ps h1) (allLen_raw a.eval ei.n ps h2) (by simp) (by simp) (by simpa using hi)
  have e1:(ps.map fun x=>(a.eval x.2).cells.toList.map D.val) = (ps.map fun x=>(a.eval x.2).cells.toList).map fun u=>u.map D.val:=by simp
  rw [e1] at m2
  have:=raw_eq (by
   intro v hv
   obtain ⟨x,hx,rfl⟩:=List.mem_map.1 hv
   exact h2 x hx) m2
  subst this
  simpa using m1
 by_cases hz:ps.length * ei.n = 0
 ·have m1:=key ((Array.range 0).map fun _=>default) (by rw [Array.size_map,Array.size_range,hz])
  simp only [execOp,ho,List.map_toArray,Instr.buildSlice,Sem.run_bind,run_underlying hu,Result.andThen_ok,(E.ok e ei he).size w,hz]
  simp [m1,newRow]
 ·have m1:=key ((Array.range (ps.length * ei.n)).map (z.cells[· % z.cells.size]!)) (by simp)
  have hn:¬ ps.length * ei.n > 16777216:=by omega
  simp only [execOp,ho,List.map_toArray,Instr.buildSlice,Sem.run_bind,run_underlying hu,Result.andThen_ok,(E.ok e ei he).size w]
  simp [hn,hz,zeroValue,typeInfo,k1,k5,m1,newRow]
theorem rwsT_ok {w:World} {ok:Nat → Prop} {ν:Nat → Nm} {st:Nat → Option En} (hν:∀ k,(st k).isSome = true → (ν k).v.oneCell' = true) (ev:Operand → PV) (ρ:Operand → Value) (hev:∀ x,RepPV w ok ν st (ev x) (ρ x)) (n:Nat) :
 ∀ (ps:List (Nat × Operand)) (rows:List (List T)),rwsT (ps.map fun x=>ev x.2) = some rows → allLenT n rows = true →
   TRows E.P w ok ν st rows (ps.map fun x=>(ρ x.2).cells.toList) [] ∧ (∀ x ∈ ps,∀ u ∈ (ρ x.2).cells.toList,u.oneCell' = true) ∧ (∀ x ∈ ps,(ρ x.2).cells.toList.length = n)
 | [],rows,h,_=>by
   simp only [List.map_nil,rwsT,Option.some.injEq] at h
   subst h
   exact ⟨by simp [TRows],by simp,by simp⟩
 | x :: ps,rows,h,hl=>by
   simp only [List.map_cons,rwsT] at h
   split at h
   ·rename_i row rows' h1 h2 h3
    obtain rfl:=Option.some.inj h
    simp only [allLenT,Bool.and_eq_true] at hl
    have hl1:=eqN_eq hl.1
    rw [lenT_eq] at hl1
    obtain ⟨k1,k2,k3⟩:=rwsT_ok hν ev ρ hev n ps rows' h3 hl.2
    have hc:=(hev x.2).cells h1 hν
    have ht:=toTs_ok (P:=E.P) hc h2
    refine ⟨?_,?_,?_⟩
    ·simp only [List.map_cons,TRows]
     exact ⟨[],[],ht,k1,rfl⟩
    ·intro y hy
     rcases List.mem_cons.1 hy with rfl | hy
     ·exact ht.one hν
     ·exact k2 y hy
    ·intro y hy
     rcases List.mem_cons.1 hy with rfl | hy
     ·rw [ht.len]; exact hl1
     ·exact k3 y hy
   ·cases h
theorem st_lit_tre (t e n k:Nat) (ps:List (Nat × Operand)) (ti ei:TI) (rows:List (List T)) (ht:E.ti t = some ti) (hty:ti.ty = .slice e) (he:E.ti e = some ei) (hn:n = ps.length) (hup:upTo 0 (ps.map (·.1)) = true)
 (hr:rwsT (ps.map fun x=>g.ev x.2) = some rows) (hlen:allLenT ei.n rows = true) (hbig:ps.length * ei.n ≤ 16777216) (hk:g.at k = none) :
 StS E.P ⟨some d,.buildSlice t n ⟨ps⟩,ty,pos,aft,gd⟩ g ⟨ps.flatMap fun x=>sls x.2,[k]⟩ ⟨some (d,.acc k),[(k,.tre e rows)]⟩:=by
 subst hn
 intro g2 hg
 have hmap:ps.map (fun x=>g2.ev x.2) = ps.map (fun x=>g.ev x.2):=by
  apply List.map_congr_left
  intro x hx
  rw [hg.ev (x:=x.2) (fun t h=>List.mem_flatMap.2 ⟨x,hx,h⟩)]
 have h3:=(hg.p k (by simp)).trans hk
 rw [← hmap] at hr
 intro X ν a w next Q hs hnx
 obtain ⟨htr,m1,m2⟩:=rwsT_ok hs.nu g2.ev a.eval hs.ev ei.n ps rows hr hlen
 have hrun:=run_litT ht hty he a w ps hup m1 m2 hbig (o:=⟨some d,.buildSlice t ps.length ⟨ps⟩,ty,pos,aft,gd⟩) rfl
 have hpos:=(E.ok e ei he).pos
 have hrl:=rwsT_len hr
 simp only [List.length_map] at hrl
 have hle:ps.length ≤ 16777216:=Nat.le_trans (Nat.le_mul_of_pos_right _ hpos) hbig
 have hul:∀ (i:Nat) (u:List Value),(ps.map fun x=>(a.eval x.2).cells.toList)[i]? = some u → u.length = ei.n:=by
  intro i u hu
  obtain ⟨x,hx,rfl⟩:=List.mem_map.1 (List.mem_of_getElem? hu)
  exact m2 x hx
 have hfl:=(raw_rows (w:=w) (ok:=fun _=>True) hul (htr.one hs.nu)).flat_len
 simp only [List.length_map] at hfl
 unfold Oper.wp
 rw [hrun,Oper.upon_value]
 have hrow:=World.ownsRow_lit w (e:=e) (⟨(ps.map fun x=>(a.eval x.2).cells.toList).flatten⟩:Array Value) rows.length (base:=0) (size:=ei.n) (Nat.zero_le _) (by simp only [maxLen]; omega) (by rw [hrl]; simpa using hfl)
 refine hnx _ _ _ (hs.newblk (chg_alloc w _) k h3 (.tre e rows) ⟨.slice (some ⟨w.heap.size,0,none⟩) ps.length ps.length,[]⟩ rfl (fun b hb=>?_) d _ _ ?_ ?_)
 ·obtain rfl:w.heap.size = b:=by simpa [Nm.has,blk] using hb
  exact Nat.le_refl _
 ·intro ok st ν' hν hw hm
  refine en_tre (us:=ps.map fun x=>(a.eval x.2).cells.toList) ?_ (by rw [(E.ok e ei he).cells]; exact hul) ?_ (by unfold LB; omega) (by rw [hν]; exact hb_nodup List.nodup_nil (by simp))
  ·rw [hν,(E.ok e ei he).cells,← hrl]
   exact hrow
  ·rw [hν]
   exact htr.frame hw (chg_alloc w _).size hm _ _ _ (by simp)
 ·intro ok st ν' hν hst hw hm
  simp only [RepPV]
  exact ⟨by rw [hst]; rfl,by rw [hν]⟩
end
def tkT:Nat → List T → List T
 | 0,_=>[]
 | _ + 1,[]=>[]
 | n + 1,a :: as=>a :: tkT n as
theorem tkT_eq:∀ (n:Nat) (l:List T),tkT n l = l.take n
 | 0,l=>by simp [tkT]
 | n + 1,[]=>by simp [tkT]
 | n + 1,a :: as=>by simp [tkT,tkT_eq n as]
def drT:Nat → List T → List T
 | 0,l=>l
 | _ + 1,[]=>[]
 | n + 1,_ :: as=>drT n as
theorem drT_eq:∀ (n:Nat) (l:List T),drT n l = l.drop n
 | 0,l=>by simp [drT]
 | n + 1,[]=>by simp [drT]
 | n + 1,a :: as=>by simp [drT,drT_eq n as]
def apT:List T → List T → List T
 | [],ys=>ys
 | x :: xs,ys=>x :: apT xs ys
theorem apT_eq:∀ (xs ys:List T),apT xs ys = xs ++ ys
 | [],ys=>rfl
 | x :: xs,ys=>by simp [apT,apT_eq xs ys]
def splT (cs:List T) (off:Nat) (vs:List T):List T:=apT (tkT off cs) (apT vs (drT (off + lenT vs) cs))
theorem splT_eq (cs:List T) (off:Nat) (vs:List T):splT cs off vs = spl cs off vs:=by
 simp only [splT,spl,apT_eq,tkT_eq,drT_eq,lenT_eq]
end Go.Eng
namespace Go.Eng
open Go.RowKit
def stpPick (g:G) (d:Nat) (c x y:Operand):Stp:=
 match g.ev c with
 | .d (.val (.bool true))=>.go ⟨sls c ++ sls x,[]⟩ ⟨some (d,g.ev x),[]⟩
 | .d (.val (.bool false))=>.go ⟨sls c ++ sls y,[]⟩ ⟨some (d,g.ev y),[]⟩
 | _=>.stop
def stpAlloc (E:Env) (g:G) (d:Nat) (t:TypeId):Stp:=
 match E.ti t with
 | some ti=>.go ⟨[],[g.new]⟩ ⟨some (d,.ptr g.new 0),[(g.new,.box ti.zero)]⟩
 | none=>.stop
def stpBox (g:G) (d:Nat) (x:Operand):Stp:=
 match (g.ev x).whole with
 | true=>.go ⟨sls x,[g.new]⟩ ⟨some (d,.ptr g.new 0),[(g.new,.box (cellsPV (g.ev x)))]⟩
 | false=>.stop
def stpLoad (E:Env) (g:G) (d:Nat) (t:TypeId) (x:Operand):Stp:=
 match E.ti t with
 | none=>.stop
 | some ti=>
   match g.ev x with
   | .ptr k off=>
     match g.at k with
     | some (.box cs)=>match leN (off + ti.n) (lenP cs) with
       | true=>.go ⟨sls x,[k]⟩ ⟨some (d,mkv ti.isAgg (tk ti.n (dr off cs))),[]⟩
       | false=>.stop
     | _=>.stop
   | .iptr xs i off=>.need (leN (off + ti.n) (lenD (row xs i)) = true) ⟨sls x,[]⟩ ⟨some (d,mkv ti.isAgg (tk ti.n (dr off (pvs (row xs i))))),[]⟩
   | .eptr k i off sz=>
     match g.at k with
     | some (.acc e xs)=>match E.ti e with
       | some ei=>.need (eqN sz ei.n = true ∧ i < xs.length ∧ leN (off + ti.n) (lenD (row xs i)) = true) ⟨sls x,[k]⟩ ⟨some (d,mkv ti.isAgg (tk ti.n (dr off (pvs (row xs i))))),[]⟩
       | none=>.stop
     | some (.tre e xs)=>match E.ti e with
       | some ei=>.need (eqN sz ei.n = true ∧ i < xs.length ∧ leN (off + ti.n) (lenT (rwT xs i)) = true) ⟨sls x,[k]⟩ ⟨some (d,mkv ti.isAgg (tk ti.n (dr off (pvT (rwT xs i))))),[]⟩
       | none=>.stop
     | _=>.stop
   | _=>.stop
def stpFld (E:Env) (g:G) (d:Nat) (s:TypeId) (x:Operand) (f:Nat):Stp:=
 match E.ti s with
 | none=>.stop
 | some si=>match si.ty with
   | .struct fs=>match fget fs f with
     | some (_,fo,_)=>match g.ev x with
       | .ptr k off=>.go ⟨sls x,[]⟩ ⟨some (d,.ptr k (off + fo)),[]⟩
       | .iptr xs i off=>.go ⟨sls x,[]⟩ ⟨some (d,.iptr xs i (off + fo)),[]⟩
       | .eptr k i off sz=>.go ⟨sls x,[]⟩ ⟨some (d,.eptr k i (off + fo) sz),[]⟩
       | _=>.stop
     | none=>.stop
   | _=>.stop
def stpField (E:Env) (g:G) (d:Nat) (s:TypeId) (x:Operand) (f:Nat):Stp:=
 match E.ti s with
 | none=>.stop
 | some si=>match si.ty with
   | .struct fs=>match fget fs f with
     | some (ft,fo,_)=>match E.ti ft with
       | none=>.stop
       | some fi=>match g.ev x with
         | .agg cs=>match leN (fo + fi.n) (lenP cs) with
           | true=>.go ⟨sls x,[]⟩ ⟨some (d,mkv fi.isAgg (tk fi.n (dr fo cs))),[]⟩
           | false=>.stop
         | _=>.stop
     | none=>.stop
   | _=>.stop
def stpIdxA (E:Env) (g:G) (d:Nat) (s:TypeId) (x y:Operand):Stp:=
 match E.ti s with
 | none=>.stop
 | some si=>match g.ev y with
   | .d (.val (.int .i64 n))=>match si.ty with
     | .slice e=>match E.ti e with
       | none=>.stop
       | some ei=>match g.ev x with
         | .d (.lst xs)=>.need (0 ≤ n ∧ n.toNat < xs.length ∧ eqN (lenD (row xs n.toNat)) ei.n = true) ⟨sls x ++ sls y,[]⟩ ⟨some (d,.iptr xs n.toNat 0),[]⟩
         | .acc k=>match g.at k with
           | some (.acc e' xs)=>match Nat.beq e e' with
             | true=>.need (0 ≤ n ∧ n.toNat < xs.length) ⟨sls x ++ sls y,[k]⟩ ⟨some (d,.eptr k n.toNat 0 ei.n),[]⟩
             | false=>.stop
           | some (.tre e' xs)=>match Nat.beq e e' with
             | true=>.need (0 ≤ n ∧ n.toNat < xs.length) ⟨sls x ++ sls y,[k]⟩ ⟨some (d,.eptr k n.toNat 0 ei.n),[]⟩
             | false=>.stop
           | _=>.stop
         | _=>.stop
     | .arr len e=>match E.ti e with
       | none=>.stop
       | some ei=>match g.ev x with
         | .ptr k off=>.need (0 ≤ n ∧ n.toNat < len) ⟨sls x ++ sls y,[]⟩ ⟨some (d,.ptr k (off + n.toNat * ei.n)),[]⟩
         | _=>.stop
     | _=>.stop
   | _=>.stop
def stpIdx (E:Env) (g:G) (d:Nat) (s:TypeId) (x y:Operand):Stp:=
 match E.ti s with
 | none=>.stop
 | some si=>match g.ev y with
   | .d (.val (.int .i64 n))=>match si.ty with
     | .str=>match g.ev x with
       | .d (.str l)=>.need (0 ≤ n ∧ n.toNat < l.length) ⟨sls x ++ sls y,[]⟩ ⟨some (d,.d (.val (.int .u8 ((l.getD n.toNat 0).toNat:Int)))),[]⟩
       | _=>.stop
     | _=>.stop
   | _=>.stop
def stpUn (g:G) (d:Nat) (u:UnOp) (x:Operand):Stp:=
 match u,g.ev x with
 | .not,.d (.val (.bool m))=>.go ⟨sls x,[]⟩ ⟨some (d,.d (.val (.bool (!m)))),[]⟩
 | .neg,.d (.val (.int .i64 m))=>.need (I64 (-m)) ⟨sls x,[]⟩ ⟨some (d,.d (.val (.int .i64 (-m)))),[]⟩
 | _,_=>.stop
def stpConv (E:Env) (g:G) (d:Nat) (s t:TypeId) (x:Operand):Stp:=
 match E.ti s,E.ti t with
 | some si,some ti=>match si.ty,ti.ty,g.ev x with
   | .int k,.int k',.d (.val (.int k2 m))=>match ikEq k k2 with
     | true=>.go ⟨sls x,[]⟩ ⟨some (d,.d (.val (.int k' (k'.wrap m)))),[]⟩
     | false=>.stop
   | _,_,_=>.stop
 | _,_=>.stop
def stpBuild (E:Env) (g:G) (d:Nat) (t:TypeId) (ps:List (Nat × Operand)):Stp:=
 match E.ti t with
 | none=>.stop
 | some ti=>match ti.ty with
   | .struct fs=>match fillQ (pls fs) ti.zero (evp g ps) with
     | some r=>.go ⟨sl2 ps,[]⟩ ⟨some (d,.agg r),[]⟩
     | none=>.stop
   | _=>.stop
def stpLit (E:Env) (g:G) (d:Nat) (t:TypeId) (n:Nat) (ps:List (Nat × Operand)):Stp:=
 match E.ti t with
 | none=>.stop
 | some ti=>match ti.ty with
   | .slice e=>match E.ti e with
     | none=>.stop
     | some ei=>match ps with
       | []=>match n with
         | 0=>.go ⟨[],[g.new]⟩ ⟨some (d,.acc g.new),[(g.new,.acc e [])]⟩
         | _=>.stop
       | p :: ps=>match Nat.beq n (len2 (p :: ps)),upTo 0 (ix2 (p :: ps)),rowsOf (ev2 g (p :: ps)) with
         | true,true,some rows=>match allLen ei.n rows,leN (len2 (p :: ps)) 64,leN ei.n 64 with
           | true,true,true=>.go ⟨sl2 (p :: ps),[]⟩ ⟨some (d,.d (.lst rows)),[]⟩
           | _,_,_=>.stop
         | true,true,none=>match rwsT (ev2 g (p :: ps)) with
           | none=>.stop
           | some rows=>match allLenT ei.n rows,leN (len2 (p :: ps)) 64,leN ei.n 64 with
             | true,true,true=>.go ⟨sl2 (p :: ps),[g.new]⟩ ⟨some (d,.acc g.new),[(g.new,.tre e rows)]⟩
             | _,_,_=>.stop
         | _,_,_=>.stop
   | _=>.stop
def stpMake (E:Env) (g:G) (d:Nat) (t:TypeId) (l c:Operand):Stp:=
 match E.ti t with
 | none=>.stop
 | some ti=>match ti.ty with
   | .slice e=>match E.ti e with
     | none=>.stop
     | some ei=>match toDs ei.zero,g.ev l,g.ev c with
       | some z,.d (.val (.int .i64 n)),.d (.val (.int .i64 n'))=>.need (n' = n ∧ 0 ≤ n ∧ n.toNat ≤ LB ∧ ei.bytes * n.toNat ≤ 281474976710656) ⟨sls l ++ sls c,[g.new]⟩ ⟨some (d,.acc g.new),[(g.new,.acc e (List.replicate n.toNat z))]⟩
       | _,_,_=>.stop
   | _=>.stop
def obI (g:G) (dflt:Int):Option Operand → Option Int
 | none=>some dflt
 | some x=>match g.ev x with
   | .d (.val (.int _ i))=>some i
   | _=>none
theorem obI_OI {g:G} {d i:Int} {o:Option Operand} (h:obI g d o = some i):OI g o d i:=by
 cases o with
 | none=>exact (Option.some.inj h).symm
 | some x=>
   simp only [obI] at h
   split at h
   ·rename_i k j hj
    obtain rfl:=Option.some.inj h
    exact ⟨k,hj⟩
   ·cases h
def stpCut (E:Env) (g:G) (d:Nat) (t:TypeId) (x:Operand) (lo hi mx:Option Operand):Stp:=
 match mx,E.ti t with
 | none,some ti=>match ti.ty,g.ev x with
   | .slice e,.d (.lst xs)=>match E.ti e,obI g 0 lo,obI g xs.length hi with
     | some ei,some l,some h=>.need (0 ≤ l ∧ l ≤ h ∧ h ≤ xs.length ∧ ∀ y ∈ xs,y.length = ei.n) ⟨sls x ++ (osl lo ++ osl hi),[]⟩ ⟨some (d,.d (.lst ((xs.drop l.toNat).take (h.toNat - l.toNat)))),[]⟩
     | _,_,_=>.stop
   | .str,.d (.str s)=>match obI g 0 lo,obI g s.length hi with
     | some l,some h=>.need (0 ≤ l ∧ l ≤ h ∧ h ≤ s.length) ⟨sls x ++ (osl lo ++ osl hi),[]⟩ ⟨some (d,.d (.str ((s.drop l.toNat).take (h.toNat - l.toNat)))),[]⟩
     | _,_=>.stop
   | _,_=>.stop
 | _,_=>.stop
def stpNil (g:G) (d:Nat) (x:Operand):Stp:=
 match g.ev x with
 | .ptr k off=>.go ⟨sls x,[]⟩ ⟨some (d,.ptr k off),[]⟩
 | .iptr xs i off=>.go ⟨sls x,[]⟩ ⟨some (d,.iptr xs i off),[]⟩
 | .eptr k i off sz=>.go ⟨sls x,[]⟩ ⟨some (d,.eptr k i off sz),[]⟩
 | _=>.stop
def stpExt (g:G) (d:Nat) (x:Operand) (i:Nat):Stp:=
 match g.ev x with
 | .tup ps=>match pget ps i with
   | some p=>.go ⟨sls x,[]⟩ ⟨some (d,p),[]⟩
   | none=>.stop
 | _=>.stop
def stpLen (E:Env) (g:G) (d:Nat) (s:TypeId) (x:Operand):Stp:=
 match E.ti s with
 | none=>.stop
 | some si=>match si.ty,g.ev x with
   | .slice _,.d (.lst xs)=>.go ⟨sls x,[]⟩ ⟨some (d,.d (.val (.int .i64 (xs.length:Int)))),[]⟩
   | .slice _,.nilS=>.go ⟨sls x,[]⟩ ⟨some (d,.d (.val (.int .i64 0))),[]⟩
   | .slice _,.acc k=>match g.at k with
     | some (.acc _ xs)=>.go ⟨sls x,[k]⟩ ⟨some (d,.d (.val (.int .i64 (xs.length:Int)))),[]⟩
     | some (.tre _ xs)=>.go ⟨sls x,[k]⟩ ⟨some (d,.d (.val (.int .i64 (xs.length:Int)))),[]⟩
     | _=>.stop
   | .str,.d (.str l)=>.go ⟨sls x,[]⟩ ⟨some (d,.d (.val (.int .i64 (l.length:Int)))),[]⟩
   | _,_=>.stop
def appRows (E:Env) (g:G) (p:PV):Option (List (List D) × Option TypeId):=
 match p with
 | .nilS=>some ([],none)
 | .d (.lst ys)=>some (ys,none)
 | .acc k=>match g.at k with
   | some (.acc e ys)=>some (ys,some e)
   | _=>none
 | .d (.val (.slice (some _) 0 _))=>some ([],none)
 | _=>none
def appOk (E:Env) (sz:Nat) (p:PV) (ys:List (List D)):Option TypeId → Prop
 | none=>∀ y ∈ ys,y.length = sz
 | some e=>∃ ei,E.ti e = some ei ∧ ei.n = sz
theorem appRows_ok {E:Env} {g:G} {p:PV} {ys:List (List D)} {o:Option TypeId} {sz:Nat} (h:appRows E g p = some (ys,o)) (ho:appOk E sz p ys o):AppArg E sz g p ys:=by
 unfold appRows at h
 split at h
 ·obtain ⟨rfl,rfl⟩:[] = ys ∧ none = o:=by simpa using h
  exact .inl ⟨rfl,rfl⟩
 ·obtain ⟨rfl,rfl⟩:_ = ys ∧ none = o:=by simpa using h
  exact .inr (.inl ⟨rfl,ho⟩)
 ·split at h
  ·rename_i e ys' hk
   obtain ⟨rfl,rfl⟩:_ = ys ∧ some e = o:=by simpa using h
   obtain ⟨ei,h1,h2⟩:=ho
   exact .inr (.inr (.inl ⟨_,e,ei,rfl,hk,h1,h2⟩))
  ·cases h
 ·obtain ⟨rfl,rfl⟩:[] = ys ∧ none = o:=by simpa using h
  exact .inr (.inr (.inr ⟨_,_,rfl,rfl⟩))
 ·cases h
def treRows (g:G) (p:PV):Option (List (List T) × TypeId):=
 match p with
 | .acc k=>match g.at k with
   | some (.tre e ys)=>some (ys,e)
   | _=>none
 | _=>none
theorem treRows_ok {E:Env} {g:G} {p:PV} {ys:List (List T)} {e:TypeId} {ei:TI} (h:treRows g p = some (ys,e)) (he:E.ti e = some ei) (hn:noOwns ys = true):TArg E ei.n g p ys:=by
 unfold treRows at h
 split at h
 ·rename_i k
  split at h
  ·rename_i e' ys' hk
   obtain ⟨rfl,rfl⟩:ys' = ys ∧ e' = e:=by simpa using h
   exact .inr ⟨k,e',ei,rfl,hk,he,rfl,hn⟩
  ·cases h
 ·cases h
def stpAppT (g:G) (d:Nat) (s x:Operand) (e:TypeId) (ei:TI):Stp:=
 match treRows g (g.ev x) with
 | none=>.stop
 | some (ys,e2)=>match Nat.beq e e2 with
   | false=>.stop
   | true=>match g.ev s with
     | .nilS=>.need (noOwns ys = true ∧ ys.length ≤ LB ∧ ys.length * ei.bytes ≤ 140737488355328) ⟨sls s ++ sls x,g.new :: apos (g.ev x)⟩ ⟨some (d,.acc g.new),[(g.new,.tre e ys)]⟩
     | .acc k=>match g.at k with
       | some (.acc e' xs)=>match Nat.beq e e' with
         | true=>.need (noOwns ys = true ∧ xs.length + ys.length ≤ LB ∧ (xs.length + ys.length) * ei.bytes ≤ 140737488355328) ⟨sls s ++ sls x,k :: g.new :: apos (g.ev x)⟩ ⟨some (d,.acc g.new),[(k,.dead),(g.new,.tre e (lift xs ++ ys))]⟩
         | false=>.stop
       | some (.tre e' xs)=>match Nat.beq e e' with
         | true=>.need (noOwns ys = true ∧ xs.length + ys.length ≤ LB ∧ (xs.length + ys.length) * ei.bytes ≤ 140737488355328) ⟨sls s ++ sls x,k :: g.new :: apos (g.ev x)⟩ ⟨some (d,.acc g.new),[(k,.dead),(g.new,.tre e (xs ++ ys))]⟩
         | false=>.stop
       | _=>.stop
     | _=>.stop
def stpApp (E:Env) (g:G) (d:Nat) (s x:Operand) (t t':TypeId):Stp:=
 match Nat.beq t t',E.ti t with
 | true,some ti=>match ti.ty with
   | .slice e=>match E.ti e,appRows E g (g.ev x) with
     | some ei,some (ys,o)=>match g.ev s with
       | .nilS=>.need (appOk E ei.n (g.ev x) ys o ∧ ys.length ≤ LB ∧ ys.length * ei.bytes ≤ 140737488355328) ⟨sls s ++ sls x,g.new :: apos (g.ev x)⟩ ⟨some (d,.acc g.new),[(g.new,.acc e ys)]⟩
       | .acc k=>match g.at k with
         | some (.acc e' xs)=>match Nat.beq e e' with
           | true=>.need (appOk E ei.n (g.ev x) ys o ∧ xs.length + ys.length ≤ LB ∧ (xs.length + ys.length) * ei.bytes ≤ 140737488355328) ⟨sls s ++ sls x,k :: g.new :: apos (g.ev x)⟩ ⟨some (d,.acc g.new),[(k,.dead),(g.new,.acc e (xs ++ ys))]⟩
           | false=>.stop
         | some (.tre e' xs)=>match Nat.beq e e' with
           | true=>.need (appOk E ei.n (g.ev x) ys o ∧ xs.length + ys.length ≤ LB ∧ (xs.length + ys.length) * ei.bytes ≤ 140737488355328) ⟨sls s ++ sls x,k :: g.new :: apos (g.ev x)⟩ ⟨some (d,.acc g.new),[(k,.dead),(g.new,.tre e (xs ++ lift ys))]⟩
           | false=>.stop
         | _=>.stop
       | _=>.stop
     | some ei,none=>stpAppT g d s x e ei
     | _,_=>.stop
   | _=>.stop
 | _,_=>.stop
def stpStore (E:Env) (g:G) (dn:Option Nat) (t:TypeId) (x y:Operand):Stp:=
 match E.ti t with
 | none=>.stop
 | some ti=>match g.ev x with
   | .ptr k off=>match g.at k with
     | some (.box cs)=>match leN (off + ti.n) (lenP cs),(g.ev y).whole,Nat.beq (lenP (cellsPV (g.ev y))) ti.n,allOne (cellsPV (g.ev y)) with
       | true,true,true,true=>.go ⟨sls x ++ sls y ++ dn.toList,[k]⟩ ⟨dn.map fun d=>(d,.undef),[(k,.box (splc cs off (cellsPV (g.ev y))))]⟩
       | _,_,_,_=>.stop
     | _=>.stop
   | .eptr k i off sz=>match g.at k with
     | some (.acc e xs)=>match E.ti e,(g.ev y).whole,Nat.beq (lenP (cellsPV (g.ev y))) ti.n,toDs (cellsPV (g.ev y)) with
       | some ei,true,true,some cs=>.need (eqN sz ei.n = true ∧ i < xs.length ∧ leN (off + ti.n) ei.n = true) ⟨sls x ++ sls y ++ dn.toList,[k]⟩ ⟨dn.map fun d=>(d,.undef),[(k,.acc e (xs.set i (spl (row xs i) off cs)))]⟩
       | some ei,true,true,none=>match toTs (cellsPV (g.ev y)) with
         | none=>.stop
         | some cs=>.need (eqN sz ei.n = true ∧ i < xs.length ∧ leN (off + ti.n) ei.n = true) ⟨sls x ++ sls y ++ dn.toList,[k]⟩ ⟨dn.map fun d=>(d,.undef),[(k,.tre e ((lift xs).set i (spl (rwT (lift xs) i) off cs)))]⟩
       | _,_,_,_=>.stop
     | some (.tre e xs)=>match E.ti e,(g.ev y).whole,Nat.beq (lenP (cellsPV (g.ev y))) ti.n,toTs (cellsPV (g.ev y)) with
       | some ei,true,true,some cs=>.need (eqN sz ei.n = true ∧ i < xs.length ∧ leN (off + ti.n) ei.n = true ∧ noOwn (tkT ti.n (drT off (rwT xs i))) = true) ⟨sls x ++ sls y ++ dn.toList,[k]⟩ ⟨dn.map fun d=>(d,.undef),[(k,.tre e (xs.set i (splT (rwT xs i) off cs)))]⟩
       | _,_,_,_=>.stop
     | _=>.stop
   | _=>.stop
def slss:List Operand → List Nat
 | []=>[]
 | x :: xs=>sls x ++ slss xs
theorem slss_eq:∀ (l:List Operand),slss l = l.flatMap sls
 | []=>rfl
 | x :: xs=>by simp [slss,slss_eq xs]
def evs (g:G):List Operand → List PV
 | []=>[]
 | x :: xs=>g.ev x :: evs g xs
theorem evs_eq (g:G):∀ (l:List Operand),evs g l = l.map g.ev
 | []=>rfl
 | x :: xs=>by simp [evs,evs_eq g xs]
def stpFn (g:G) (d:Nat) (fn:Fn) (first cs:List Operand):Stp:=
 match fn,first with
 | .func f,[]=>.go ⟨slss cs,[]⟩ ⟨some (d,.fn f (evs g cs)),[]⟩
 | _,_=>.stop
def stpCall (E:Env) (g:G) (d:Nat) (callee:Callee) (args:List Operand) (tys:List TypeId):Stp:=
 match callee with
 | .builtin b=>match b,args,tys with
   | .len,[x],[s]=>stpLen E g d s x
   | .append,[s,x],[t,t']=>stpApp E g d s x t t'
   | _,_,_=>.stop
 | _=>.stop
def stpOp (E:Env) (g:G) (d:Nat):Op → Stp
 | .move x=>.go ⟨sls x,[]⟩ ⟨some (d,g.ev x),[]⟩
 | .assign x=>.go ⟨sls x,[]⟩ ⟨some (d,g.ev x),[]⟩
 | .pick c x y=>stpPick g d c x y
 | .alloc t=>stpAlloc E g d t
 | .box _ x=>stpBox g d x
 | .load t x=>stpLoad E g d t x
 | .fieldAddr s x f=>stpFld E g d s x f
 | .field s x f=>stpField E g d s x f
 | .indexAddr s x y=>stpIdxA E g d s x y
 | .index s x y=>stpIdx E g d s x y
 | .store t x y=>stpStore E g (some d) t x y
 | .binOp b t x y _=>bop E g d b t x y
 | .unOp u _ x=>stpUn g d u x
 | .convert s t x=>stpConv E g d s t x
 | .makeFunc fn first cs=>stpFn g d fn first.toList cs.toList
 | .build t ps=>stpBuild E g d t ps.toList
 | .buildSlice t n ps=>stpLit E g d t n ps.toList
 | .makeSlice t l c=>stpMake E g d t l c
 | .slice t x lo hi mx=>stpCut E g d t x lo hi mx
 | .nilCheck x=>stpNil g d x
 | .extract x i=>stpExt g d x i
 | .call c=>stpCall E g d c.callee c.args.toList c.argTypes.toList
 | _=>.stop
def stp (E:Env) (g:G) (o:Oper):Stp:=
 match o.dst,o.op with
 | some d,op=>stpOp E g d op
 | none,.store t x y=>stpStore E g none t x y
 | none,_=>.stop
section
variable {E:Env} {g:G} {d:Nat} {ty:TypeId} {pos:String} {aft:Array Edge} {gd:Option (Nat × Bool)} {dn:Option Nat}
theorem stpLoad_ok (t:TypeId) (x:Operand):(stpLoad E g d t x).Ok E.P ⟨some d,.load t x,ty,pos,aft,gd⟩ g:=by
 unfold stpLoad
 split
 ·trivial
 ·rename_i ti ht
  split
  ·rename_i k off hx
   split
   ·rename_i cs hk
    split
    ·rename_i hl
     have hl:=leN_le hl
     rw [lenP_eq] at hl
     simp only [tk_eq,dr_eq]
     exact st_load_box x t k off ti cs ht hx hk hl
    ·trivial
   ·trivial
  ·rename_i xs i off hx
   simp only [tk_eq,dr_eq]
   exact fun h=>st_load_iptr x t i off ti xs _ ht hx rfl (lenD_le h)
  ·rename_i k i off sz hx
   split
   ·rename_i e xs hk
    split
    ·rename_i ei he
     simp only [tk_eq,dr_eq]
     exact fun h=>st_load_eptr x t k i off sz e ti ei xs _ ht he (eqN_eq h.1) hx hk h.2.1 rfl (lenD_le h.2.2)
    ·trivial
   ·rename_i e xs hk
    split
    ·rename_i ei he
     simp only [tk_eq,dr_eq]
     exact fun h=>st_load_tre x t k i off sz e ti ei xs ht he (eqN_eq h.1) hx hk h.2.1 (by have:=leN_le h.2.2; rwa [lenT_eq] at this)
    ·trivial
   ·trivial
  ·trivial
theorem stpFld_ok (s:TypeId) (x:Operand) (f:Nat):(stpFld E g d s x f).Ok E.P ⟨some d,.fieldAddr s x f,ty,pos,aft,gd⟩ g:=by
 unfold stpFld
 split
 ·trivial
 ·rename_i si hs
  split
  ·rename_i fs hsy
   split
   ·rename_i ft fo fz hf
    rw [fget_eq] at hf
    split
    ·rename_i hx; exact st_fld_ptr x s f _ _ si fs ft fo fz hs hsy hf hx
    ·rename_i hx; exact st_fld_iptr x s f _ _ _ si fs ft fo fz hs hsy hf hx
    ·rename_i hx; exact st_fld_eptr x s f _ _ _ _ si fs ft fo fz hs hsy hf hx
    ·trivial
   ·trivial
  ·trivial
theorem stpField_ok (s:TypeId) (x:Operand) (f:Nat):(stpField E g d s x f).Ok E.P ⟨some d,.field s x f,ty,pos,aft,gd⟩ g:=by
 unfold stpField
 split
 ·trivial
 ·rename_i si hs
  split
  ·rename_i fs hsy
   split
   ·rename_i ft fo fz hf
    rw [fget_eq] at hf
    split
    ·trivial
    ·rename_i fi hfi
     split
     ·rename_i cs hx
      split
      ·rename_i hl
       have hl:=leN_le hl
       rw [lenP_eq] at hl
       simp only [tk_eq,dr_eq]
       exact st_field x s f si fs ft fo fz fi cs hs hsy hf hfi hx hl
      ·trivial
     ·trivial
   ·trivial
  ·trivial
theorem stpIdxA_ok (s:TypeId) (x y:Operand):(stpIdxA E g d s x y).Ok E.P ⟨some d,.indexAddr s x y,ty,pos,aft,gd⟩ g:=by
 unfold stpIdxA
 split
 ·trivial
 ·rename_i si hs
  split
  ·rename_i n hy
   split
   ·rename_i e hsy
    split
    ·trivial
    ·rename_i ei he
     split
     ·rename_i xs hx
      exact fun h=>st_idx_lst x y s si ei e xs n hs hsy he hx hy h.1 h.2.1 (lenD_is h.2.2)
     ·rename_i k hx
      split
      ·rename_i e' xs hk
       split
       ·rename_i hee
        obtain rfl:=Nat.eq_of_beq_eq_true hee
        exact fun h=>st_idx_acc x y s si ei e k xs n hs hsy he hx hk hy h.1 h.2
       ·trivial
      ·rename_i e' xs hk
       split
       ·rename_i hee
        obtain rfl:=Nat.eq_of_beq_eq_true hee
        exact fun h=>st_idx_tre x y s si ei e k xs n hs hsy he hx hk hy h.1 h.2
       ·trivial
      ·trivial
     ·trivial
   ·rename_i len e hsy
    split
    ·trivial
    ·rename_i ei he
     split
     ·rename_i k off hx
      exact fun h=>st_idx_arr x y s si ei e len k off n hs hsy he hx hy h.1 h.2
     ·trivial
   ·trivial
  ·trivial
theorem stpIdx_ok (s:TypeId) (x y:Operand):(stpIdx E g d s x y).Ok E.P ⟨some d,.index s x y,ty,pos,aft,gd⟩ g:=by
 unfold stpIdx
 split
 ·trivial
 ·rename_i si hs
  split
  ·rename_i n hy
   split
   ·rename_i hsy
    split
    ·rename_i l hx
     exact fun h=>st_idx_str x y s si l n hs hsy hx hy h.1 h.2
    ·trivial
   ·trivial
  ·trivial
theorem stpUn_ok (u:UnOp) (t:TypeId) (x:Operand):(stpUn g d u x).Ok E.P ⟨some d,.unOp u t x,ty,pos,aft,gd⟩ g:=by
 unfold stpUn
 split
 ·rename_i m hx; exact st_not x m t hx
 ·rename_i m hx; exact fun h=>st_neg x m t hx h
 ·trivial
theorem stpConv_ok (s t:TypeId) (x:Operand):(stpConv E g d s t x).Ok E.P ⟨some d,.convert s t x,ty,pos,aft,gd⟩ g:=by
 unfold stpConv
 split
 ·rename_i si ti hs ht
  split
  ·rename_i k k' k2 m hsy hty hx
   split
   ·rename_i hk
    obtain rfl:=ikEq_eq hk
    exact st_conv x k k' m s t si ti hs hsy ht hty hx
   ·trivial
  ·trivial
 ·trivial
theorem stpBuild_ok (t:TypeId) (ps:Array (Nat × Operand)):(stpBuild E g d t ps.toList).Ok E.P ⟨some d,.build t ps,ty,pos,aft,gd⟩ g:=by
 unfold stpBuild
 split
 ·trivial
 ·rename_i ti ht
  split
  ·rename_i fs hty
   split
   ·rename_i r hr
    have hr:=fillQ_P _ _ _ _ hr
    rw [pls_eq,evp_eq] at hr
    rw [sl2_eq]
    exact st_build t ps.toList ti fs r ht hty hr
   ·trivial
  ·trivial
theorem stpLit_ok (t:TypeId) (n:Nat) (ps:Array (Nat × Operand)):(stpLit E g d t n ps.toList).Ok E.P ⟨some d,.buildSlice t n ps,ty,pos,aft,gd⟩ g:=by
 obtain ⟨ps⟩:=ps
 simp only
 unfold stpLit
 split
 ·trivial
 ·rename_i ti ht
  split
  ·rename_i e hty
   split
   ·trivial
   ·rename_i ei he
    split
    ·split
     ·exact st_lit_acc t e 0 g.new [] ti ei [] ht hty he rfl rfl rfl rfl (by simp) g.new_none
     ·trivial
    ·rename_i p ps
     split
     ·rename_i rows h1 h2 h3
      split
      ·rename_i h4 h5 h6
       have h1:=Nat.eq_of_beq_eq_true h1
       have h5:=leN_le h5
       have h6:=leN_le h6
       rw [len2_eq] at h1 h5
       rw [ix2_eq] at h2
       rw [ev2_eq] at h3
       rw [sl2_eq]
       exact st_lit_d t e n (p :: ps) ti ei rows ht hty he h1 h2 h3 h4 (Nat.le_trans (Nat.mul_le_mul h5 h6) (by omega))
      ·trivial
     ·rename_i h1 h2 _
      split
      ·trivial
      ·rename_i rows h3
       split
       ·rename_i h4 h5 h6
        have h1:=Nat.eq_of_beq_eq_true h1
        have h5:=leN_le h5
        have h6:=leN_le h6
        rw [len2_eq] at h1 h5
        rw [ix2_eq] at h2
        rw [ev2_eq] at h3
        rw [sl2_eq]
        exact st_lit_tre t e n g.new (p :: ps) ti ei rows ht hty he h1 h2 h3 h4 (Nat.le_trans (Nat.mul_le_mul h5 h6) (by omega)) g.new_none
       ·trivial
     ·trivial
  ·trivial
theorem stpMake_ok (t:TypeId) (l c:Operand):(stpMake E g d t l c).Ok E.P ⟨some d,.makeSlice t l c,ty,pos,aft,gd⟩ g:=by
 unfold stpMake
 split
 ·trivial
 ·rename_i ti ht
  split
  ·rename_i e hty
   split
   ·trivial
   ·rename_i ei he
    split
    ·rename_i z n n' hz hl hc
     rintro ⟨rfl,h1,h2,h3⟩
     exact st_make l c t e g.new ti ei n' z ht hty he hz hl hc g.new_none h1 h2 h3
    ·trivial
  ·trivial
theorem stpCut_ok (t:TypeId) (x:Operand) (lo hi mx:Option Operand):(stpCut E g d t x lo hi mx).Ok E.P ⟨some d,.slice t x lo hi mx,ty,pos,aft,gd⟩ g:=by
 unfold stpCut
 split
 ·rename_i ti ht
  split
  ·rename_i e xs hty hx
   split
   ·rename_i ei l h he hl hh
    exact fun k=>st_cut_lst x lo hi t e ti ei xs _ l h ht hty he hx (obI_OI hl) (obI_OI hh) k.1 k.2.1 k.2.2.1 k.2.2.2 rfl
   ·trivial
  ·rename_i s hty hx
   split
   ·rename_i l h hl hh
    exact fun k=>st_cut_str x lo hi t ti s _ l h ht hty hx (obI_OI hl) (obI_OI hh) k.1 k.2.1 k.2.2 rfl
   ·trivial
  ·trivial
 ·trivial
theorem stpNil_ok (x:Operand):(stpNil g d x).Ok E.P ⟨some d,.nilCheck x,ty,pos,aft,gd⟩ g:=by
 unfold stpNil
 split
 ·rename_i hx; exact st_nilCheck_ptr x _ _ hx
 ·rename_i hx; exact st_nilCheck_iptr x _ _ _ hx
 ·rename_i hx; exact st_nilCheck_eptr x _ _ _ _ hx
 ·trivial
theorem stpExt_ok (x:Operand) (i:Nat):(stpExt g d x i).Ok E.P ⟨some d,.extract x i,ty,pos,aft,gd⟩ g:=by
 unfold stpExt
 split
 ·rename_i ps hx
  split
  ·rename_i p hp
   rw [pget_eq] at hp
   exact st_extract x i ps p hx hp
  ·trivial
 ·trivial
theorem stpLen_ok (s:TypeId) (x:Operand):(stpLen E g d s x).Ok E.P ⟨some d,.call ⟨.builtin .len,#[x],#[s]⟩,ty,pos,aft,gd⟩ g:=by
 unfold stpLen
 split
 ·trivial
 ·rename_i si hs
  split
  ·rename_i e xs hsy hx; exact st_len_lst x s si e xs hs hsy hx
  ·rename_i e hsy hx; exact st_len_nil x s si e hs hsy hx
  ·rename_i e k hsy hx
   split
   ·rename_i e' xs hk; exact st_len_acc x s si e e' k xs hs hsy hx hk
   ·rename_i e' xs hk; exact st_len_tre x s si e e' k xs hs hsy hx hk
   ·trivial
  ·rename_i l hsy hx; exact st_len_str x s si l hs hsy hx
  ·trivial
theorem stpAppT_ok (s x:Operand) (t e:TypeId) (ti ei:TI) (ht:E.ti t = some ti) (hty:ti.ty = .slice e) (he:E.ti e = some ei):(stpAppT g d s x e ei).Ok E.P ⟨some d,.call ⟨.builtin .append,#[s,x],#[t,t]⟩,ty,pos,aft,gd⟩ g:=by
 unfold stpAppT
 split
 ·trivial
 ·rename_i ys e2 hr
  split
  ·trivial
  ·rename_i h2
   obtain rfl:=Nat.eq_of_beq_eq_true h2
   split
   ·rename_i hs
    exact fun h=>st_append_nilT s x t e g.new ti ei _ ys ht hty he hs rfl (treRows_ok hr he h.1) g.new_none h.2.1 h.2.2
   ·rename_i k hs
    split
    ·rename_i e' xs hk
     split
     ·rename_i hee
      obtain rfl:=Nat.eq_of_beq_eq_true hee
      exact fun h=>st_append_accT s x t e k g.new ti ei _ xs ys ht hty he hs hk rfl (treRows_ok hr he h.1) g.new_none h.2.1 h.2.2
     ·trivial
    ·rename_i e' xs hk
     split
     ·rename_i hee
      obtain rfl:=Nat.eq_of_beq_eq_true hee
      exact fun h=>st_append_treT s x t e k g.new ti ei _ xs ys ht hty he hs hk rfl (treRows_ok hr he h.1) g.new_none h.2.1 h.2.2
     ·trivial
    ·trivial
   ·trivial
theorem stpApp_ok (s x:Operand) (t t':TypeId):(stpApp E g d s x t t').Ok E.P ⟨some d,.call ⟨.builtin .append,#[s,x],#[t,t']⟩,ty,pos,aft,gd⟩ g:=by
 unfold stpApp
 split
 ·rename_i ti htt ht
  obtain rfl:=Nat.eq_of_beq_eq_true htt
  split
  ·rename_i e hty
   split
   ·rename_i ei ys o he hap
    split
    ·rename_i hs
     exact fun h=>st_append_nil s x t e g.new ti ei _ ys ht hty he hs rfl (appRows_ok hap h.1) g.new_none h.2.1 h.2.2
    ·rename_i k hs
     split
     ·rename_i e' xs hk
      split
      ·rename_i hee
       obtain rfl:=Nat.eq_of_beq_eq_true hee
       exact fun h=>st_append_acc s x t e k g.new ti ei _ xs ys ht hty he hs hk rfl (appRows_ok hap h.1) g.new_none h.2.1 h.2.2
      ·trivial
     ·rename_i e' xs hk
      split
      ·rename_i hee
       obtain rfl:=Nat.eq_of_beq_eq_true hee
       exact fun h=>st_append_treT s x t e k g.new ti ei _ xs (lift ys) ht hty he hs hk rfl (.inl ⟨ys,appRows_ok hap h.1,rfl⟩) g.new_none (by rw [lift_len]; exact h.2.1) (by rw [lift_len]; exact h.2.2)
      ·trivial
     ·trivial
    ·trivial
   ·rename_i ei he _
    exact stpAppT_ok s x t e ti ei ht hty he
   ·trivial
  ·trivial
 ·trivial
theorem stpStore_ok (t:TypeId) (x y:Operand):(stpStore E g dn t x y).Ok E.P ⟨dn,.store t x y,ty,pos,aft,gd⟩ g:=by
 unfold stpStore
 split
 ·trivial
 ·rename_i ti ht
  split
  ·rename_i k off hx
   split
   ·rename_i cs hk
    split
    ·rename_i h1 h2 h3 h4
     have h1:=leN_le h1
     have h3:=Nat.eq_of_beq_eq_true h3
     rw [lenP_eq] at h1 h3
     rw [splc_eq _ _ _ (by omega)]
     exact st_store_box x y t k off ti cs _ ht hx hk rfl h1 h2 h3 h4
    ·trivial
   ·trivial
  ·rename_i k i off sz hx
   split
   ·rename_i e xs hk
    split
    ·rename_i ei cs he h2 h3 h4
     have h3:=Nat.eq_of_beq_eq_true h3
     rw [lenP_eq] at h3
     exact fun h=>st_store_eptr x y t k i off sz e ti ei xs _ cs ht he (eqN_eq h.1) hx hk rfl h.2.1 (leN_le h.2.2) h2 h3 h4
    ·rename_i ei he h2 h3 _
     have h3:=Nat.eq_of_beq_eq_true h3
     rw [lenP_eq] at h3
     split
     ·trivial
     ·rename_i cs h4
      exact fun h=>st_store_acc x y t k i off sz e ti ei xs _ cs ht he (eqN_eq h.1) hx hk rfl h.2.1 (leN_le h.2.2) h2 h3 h4
    ·trivial
   ·rename_i e xs hk
    split
    ·rename_i ei cs he h2 h3 h4
     have h3:=Nat.eq_of_beq_eq_true h3
     rw [lenP_eq] at h3
     simp only [tkT_eq,drT_eq,splT_eq]
     exact fun h=>st_store_tre x y t k i off sz e ti ei xs _ cs ht he (eqN_eq h.1) hx hk rfl h.2.1 (leN_le h.2.2.1) h2 h3 h4 h.2.2.2
    ·trivial
   ·trivial
  ·trivial
theorem stpFn_ok (fn:Fn) (first cs:Array Operand):(stpFn g d fn first.toList cs.toList).Ok E.P ⟨some d,.makeFunc fn first cs,ty,pos,aft,gd⟩ g:=by
 obtain ⟨first⟩:=first
 obtain ⟨cs⟩:=cs
 unfold stpFn
 split
 ·rename_i f h
  simp only at h
  subst h
  rw [slss_eq,evs_eq]
  exact st_makeFunc _ _
 ·trivial
theorem stpCall_ok (c:Call):(stpCall E g d c.callee c.args.toList c.argTypes.toList).Ok E.P ⟨some d,.call c,ty,pos,aft,gd⟩ g:=by
 obtain ⟨callee,⟨args⟩,⟨tys⟩⟩:=c
 unfold stpCall
 split
 ·split
  ·rename_i h1 h2
   simp only at h1 h2
   subst h1 h2
   rename_i h
   simp only at h
   subst h
   exact stpLen_ok _ _
  ·rename_i h1 h2
   simp only at h1 h2
   subst h1 h2
   rename_i h
   simp only at h
   subst h
   exact stpApp_ok _ _ _ _
  ·trivial
 ·trivial
theorem stpOp_ok (op:Op):(stpOp E g d op).Ok E.P ⟨some d,op,ty,pos,aft,gd⟩ g:=by
 unfold stpOp
 split
 ·exact st_move _
 ·exact st_assign _
 ·unfold stpPick
  split
  ·rename_i hc; exact st_pick _ _ _ true hc
  ·rename_i hc; exact st_pick _ _ _ false hc
  ·trivial
 ·unfold stpAlloc
  split
  ·rename_i ti ht; exact st_alloc _ g.new ti ht g.new_none
  ·trivial
 ·unfold stpBox
  split
  ·rename_i hw; exact st_box _ _ g.new g.new_none hw
  ·trivial
 ·exact stpLoad_ok _ _
 ·exact stpFld_ok _ _ _
 ·exact stpField_ok _ _ _
 ·exact stpIdxA_ok _ _ _
 ·exact stpIdx_ok _ _ _
 ·exact stpStore_ok _ _ _
 ·exact bop_ok _ _ _ _ _
 ·exact stpUn_ok _ _ _
 ·exact stpConv_ok _ _ _
 ·exact stpFn_ok _ _ _
 ·exact stpBuild_ok _ _
 ·exact stpLit_ok _ _ _
 ·exact stpMake_ok _ _ _
 ·exact stpCut_ok _ _ _ _ _
 ·exact stpNil_ok _
 ·exact stpExt_ok _ _
 ·exact stpCall_ok _
 ·trivial
theorem stp_ok (o:Oper):(stp E g o).Ok E.P o g:=by
 obtain ⟨dst,op,ty,pos,aft,gd⟩:=o
 unfold stp
 split
 ·rename_i d h
  obtain rfl:dst = some d:=h
  exact stpOp_ok op
 ·rename_i t x y h1 h2
  obtain rfl:dst = none:=h1
  obtain rfl:op = .store t x y:=h2
  exact stpStore_ok _ _ _
 ·trivial
end
end Go.Eng
namespace Go.Eng
open Go.RowKit
inductive Tok where
 | on
 | off
def ifB:Bool → (Tok → Prop) → (Tok → Prop) → Prop
 | true,a,_=>a .on
 | false,_,b=>b .on
theorem ifB_t (a b:Tok → Prop):ifB true a b = a .on:=rfl
theorem ifB_f (a b:Tok → Prop):ifB false a b = b .on:=rfl
theorem ifB_intro {c:Bool} {a b:Tok → Prop} (ht:c = true → a .on) (hf:c = false → b .on):ifB c a b:=by
 cases c
 ·exact hf rfl
 ·exact ht rfl
theorem ifB_cases {c:Bool} {a b:Tok → Prop} (h:ifB c a b):(c = true ∧ a .on) ∨ (c = false ∧ b .on):=by
 cases c
 ·exact .inr ⟨rfl,h⟩
 ·exact .inl ⟨rfl,h⟩
def snoc:List Ky → Ky → List Ky
 | [],k=>[k]
 | a :: as,k=>a :: snoc as k
theorem snoc_eq:∀ (l:List Ky) (k:Ky),snoc l k = l ++ [k]
 | [],_=>rfl
 | a :: as,k=>by simp [snoc,snoc_eq as k]
def snocO:Option (List Ky) → Ky → Option (List Ky)
 | none,_=>none
 | some l,k=>some (snoc l k)
def WM (P:Program) (ops:Array Oper):Option (List Ky) → List Oper → G → (G → Prop) → Prop
 | none,os,g,K=>WO P ops os g K
 | some pre,os,g,K=>WD P ops os pre g K
theorem WM_cons {P:Program} {ops:Array Oper} {m:Option (List Ky)} {o:Oper} {os:List Oper} {g:G} {K:G → Prop} {R:Rd} {δ:Dl} (h:StG P ops o g R δ) (hr:WM P ops (snocO m (mkKy R δ)) os (g.app δ) K):WM P ops m (o :: os) g K:=by
 cases m with
 | none=>exact WO_cons h hr
 | some pre=>
   simp only [snocO,snoc_eq] at hr
   exact WD_cons h hr
def addG:Option Nat → Rd → Rd
 | none,R=>R
 | some t,R=>⟨t :: R.s,R.p⟩
def Wk0 (P:Program) (g g':G):Prop:=∀ (X:Cx) (ν:Nat → Nm) (a:Act) (w:World),Sat P X ν g a w → ∃ ν',Sat P X ν' g' a w
theorem Wk0.trans {P:Program} {g g1 g2:G} (h:Wk0 P g g1) (h':Wk0 P g1 g2):Wk0 P g g2:=fun X ν a w hs=>
 let ⟨ν1,h1⟩:=h X ν a w hs
 h' X ν1 a w h1
theorem WO_weak {P:Program} {ops:Array Oper} {os:List Oper} {g g':G} {K:G → Prop} (hw:Wk0 P g g') (h:WO P ops os g' K):WO P ops os g K:=fun i hi X ν a w Q hs hn=>
 let ⟨ν',hs'⟩:=hw X ν a w hs
 h i hi X ν' a w Q hs' hn
def atOp (E:Env) (m:Option (List Ky)) (gs:Option Nat) (o:Oper) (g:G) (rest:Tok → Option (List Ky) → G → Prop):Prop:=
 (∃ R δ,StS E.P o g R δ ∧ rest .on (snocO m (mkKy (addG gs R) δ)) (g.app δ)) ∨
 (m = none ∧ gs = none ∧ ∃ g',Wk0 E.P g g' ∧ ∃ R δ,StS E.P o g' R δ ∧ rest .on none (g'.app δ))
theorem atOp_by {E:Env} {m:Option (List Ky)} {gs:Option Nat} {o:Oper} {g:G} {rest:Tok → Option (List Ky) → G → Prop} {R:Rd} {δ:Dl} (h:StS E.P o g R δ) (hr:rest .on (snocO m (mkKy (addG gs R) δ)) (g.app δ)):atOp E m gs o g rest:=.inl ⟨R,δ,h,hr⟩
def stepS (E:Env) (m:Option (List Ky)) (gs:Option Nat) (o:Oper) (g:G) (rest:Tok → Option (List Ky) → G → Prop):Stp → Prop
 | .go R δ=>rest .on (snocO m (mkKy (addG gs R) δ)) (g.app δ)
 | .need φ R δ=>φ ∧ rest .on (snocO m (mkKy (addG gs R) δ)) (g.app δ)
 | .stop=>atOp E m gs o g rest
theorem stepS_at {E:Env} {m:Option (List Ky)} {gs:Option Nat} {o:Oper} {g:G} {rest:Tok → Option (List Ky) → G → Prop} (h:stepS E m gs o g rest (stp E g o)):atOp E m gs o g rest:=by
 have hk:=stp_ok (E:=E) (g:=g) o
 generalize stp E g o = s at h hk
 cases s with
 | go R δ=>exact .inl ⟨R,δ,hk,h⟩
 | need φ R δ=>exact .inl ⟨R,δ,hk h.1,h.2⟩
 | stop=>exact h
def doIt (E:Env) (m:Option (List Ky)) (t:Nat) (o:Oper) (g:G) (rest:Tok → Option (List Ky) → G → Prop):Tok → Prop
 | .on=>stepS E m (some t) o g rest (stp E g o)
 | .off=>False
def skipS (m:Option (List Ky)) (t:Nat) (g:G) (rest:Tok → Option (List Ky) → G → Prop):Option Nat → Tok → Prop
 | some d,.on=>rest .on (snocO m ⟨[t],[],[d],[]⟩) (g.app ⟨some (d,.undef),[]⟩)
 | _,_=>False
def guardS:PV → Bool → (Tok → Prop) → (Tok → Prop) → Prop
 | .d (.val (.bool c)),true,yes,no=>ifB c yes no
 | .d (.val (.bool c)),false,yes,no=>ifB c no yes
 | .undef,_,_,no=>no .on
 | _,_,_,_=>False
def gsl:List Oper → Nat → Option Nat
 | [],_=>none
 | o :: _,0=>o.dst
 | _ :: os,n + 1=>gsl os n
theorem gsl_eq:∀ (l:List Oper) (n:Nat),gsl l n = (l[n]?).bind (·.dst)
 | [],n=>by simp [gsl]
 | o :: _,0=>rfl
 | _ :: os,n + 1=>by simp [gsl,gsl_eq os n]
def endK (all:List Oper) (g:G) (K:Tok → G → Prop):Option (List Ky) → Prop
 | none=>K .on g
 | some pre=>indep all pre = true ∧ K .on g
def gOf2 (E:Env) (all:List Oper) (m:Option (List Ky)) (o:Oper) (g:G) (rest:Tok → Option (List Ky) → G → Prop):Option (Nat × Bool) → Prop
 | none=>stepS E m none o g rest (stp E g o)
 | some (j,b)=>match gsl all j with
   | none=>False
   | some t=>guardS (nth g.sl t) b (doIt E m t o g rest) (skipS m t g rest o.dst)
def run (E:Env) (all:List Oper) (K:Tok → G → Prop):List Oper → Tok → Option (List Ky) → G → Prop
 | [],.on,m,g=>endK all g K m
 | o :: os,.on,m,g=>gOf2 E all m o g (run E all K os) o.guard
 | [],.off,_,_=>False
 | _ :: _,.off,_,_=>False
theorem run_ok {E:Env} {ops:Array Oper} {K:Tok → G → Prop}:∀ (os:List Oper) (m:Option (List Ky)) (g:G),run E ops.toList K os .on m g → WM E.P ops m os g (K .on)
 | [],none,g,h=>WO_nil h
 | [],some pre,g,h=>WD_nil h.1 h.2
 | o :: os,m,g,h=>by
   have ih:=run_ok (E:=E) (ops:=ops) (K:=K) os
   simp only [run] at h
   cases hg:o.guard with
   | none=>
     rw [hg] at h
     rcases stepS_at h with ⟨R,δ,h1,h2⟩ | ⟨rfl,_,g',hw,R,δ,h1,h2⟩
     ·exact WM_cons (StG.plain hg h1) (ih _ _ h2)
     ·exact WO_weak hw (WO_cons (StG.plain hg h1) (ih _ _ h2))
   | some jb=>
     obtain ⟨j,b⟩:=jb
     rw [hg] at h
     simp only [gOf2] at h
     split at h
     ·exact h.elim
     ·rename_i t ht
      have hj:gslot ops j = some t:=by
       rw [gsl_eq] at ht
       unfold gslot
       rw [← ht]
       simp
      have hyes:∀ c,nth g.sl t = .d (.val (.bool c)) → c = b → doIt E m t o g (run E ops.toList K os) .on → WM E.P ops m (o :: os) g (K .on):=by
       intro c hc hcb hd
       subst hcb
       rcases stepS_at hd with ⟨R,δ,h1,h2⟩ | ⟨_,h0,_⟩
       rotate_left
       ·cases h0
       exact WM_cons (StG.run hg hj hc h1) (ih _ _ h2)
      have hno:∀ c,nth g.sl t = .d (.val (.bool c)) → c ≠ b → skipS m t g (run E ops.toList K os) o.dst .on → WM E.P ops m (o :: os) g (K .on):=by
       intro c hc hcb hd
       cases hdst:o.dst with
       | none=>rw [hdst] at hd; exact hd.elim
       | some d=>
         rw [hdst] at hd
         exact WM_cons (StG.skip hg hj hc hcb hdst) (ih _ _ hd)
      cases hv:nth g.sl t <;> rw [hv] at h <;> first
       | (simp only [guardS] at h; done)
       | skip
      ·simp only [guardS] at h
       cases hdst:o.dst with
       | none=>rw [hdst] at h; exact h.elim
       | some d=>
         rw [hdst] at h
         exact WM_cons (StG.skipU hg hj hv hdst) (ih _ _ h)
      ·rename_i x
       cases x with
       | str s=>simp only [guardS] at h
       | lst s=>simp only [guardS] at h
       | val v=>
         cases v <;> first
          | (simp only [guardS] at h; done)
          | skip
         rename_i c
         cases b with
         | true=>
           simp only [guardS] at h
           rcases ifB_cases h with ⟨h1,h2⟩ | ⟨h1,h2⟩
           ·exact hyes c hv h1 h2
           ·exact hno c hv (by rw [h1]; simp) h2
         | false=>
           simp only [guardS] at h
           rcases ifB_cases h with ⟨h1,h2⟩ | ⟨h1,h2⟩
           ·exact hno c hv (by rw [h1]; simp) h2
           ·exact hyes c hv h1 h2
def thenT (K:Tok → G → Prop) (Q:Tok → Ex → G → Prop):Tok → Ex → G → Prop
 | .on,.normal,g=>K .on g
 | .on,.exit id,g=>Q .on (.exit id) g
 | .on,.ret,g=>Q .on .ret g
 | .off,_,_=>False
def blockT (id:Nat) (Q:Tok → Ex → G → Prop):Tok → Ex → G → Prop
 | .on,.normal,g=>Q .on .normal g
 | .on,.exit i,g=>match Nat.beq i id with | true=>Q .on .normal g | false=>Q .on (.exit i) g
 | .on,.ret,g=>Q .on .ret g
 | .off,_,_=>False
def normT (Q:Tok → Ex → G → Prop):Tok → G → Prop
 | .on,g=>Q .on .normal g
 | .off,_=>False
def condT:PV → (Tok → Prop) → (Tok → Prop) → Prop
 | .d (.val (.bool b)),x,y=>ifB b x y
 | _,_,_=>False
def regT (E:Env) (ops:List Oper) (Q:Tok → Ex → G → Prop) (g:G):Bool → Prop
 | false=>run E ops (normT Q) ops .on none g
 | true=>run E ops (normT Q) ops .on (some []) g
def wpc (E:Env) (n0:Nat):Code → Tok → G → (Tok → Ex → G → Prop) → Prop
 | .skip,.on,g,Q=>Q .on .normal g
 | .exit id,.on,g,Q=>Q .on (.exit id) g
 | .ret,.on,g,Q=>Q .on .ret g
 | .seq a b,.on,g,Q=>wpc E n0 a .on g (thenT (fun tok g'=>wpc E n0 b tok g' Q) Q)
 | .cond c x y,.on,g,Q=>condT (g.ev c) (fun tok=>wpc E n0 x tok g Q) (fun tok=>wpc E n0 y tok g Q)
 | .block id c,.on,g,Q=>wpc E n0 c .on g (blockT id Q)
 | .region _ ops dr,.on,g,Q=>regT E ops.toList Q g dr
 | .loop c,.on,g,Q=>W E.P n0 (.loop c) g (Q .on)
 | _,_,_,_=>False
theorem wpc_ok {E:Env} (hm:E.P.follows .mixedOrders = true) {n0:Nat}:∀ (c:Code) (g:G) (Q:Tok → Ex → G → Prop),wpc E n0 c .on g Q → W E.P n0 c g (Q .on):=by
 intro c
 induction c with
 | skip=>intro g Q h; exact W_skip h
 | exit id=>intro g Q h; exact W_exit h
 | ret=>intro g Q h; exact W_ret h
 | seq a b iha ihb=>
   intro g Q h
   have:=iha g _ h
   refine W_seq (fun X ν ac w hp hs=>wp_mono (this X ν ac w hp hs) fun e a' w' hl=>?_)
   cases e with
   | normal=>obtain ⟨g',ν',h1,h2⟩:=hl; exact ⟨g',ν',ihb g' Q h1,h2⟩
   | exit id=>exact hl
   | ret=>exact hl
   | goto l=>exact hl
   | panic c=>exact hl
   | outgrown=>exact hl
 | cond c x y ihx ihy=>
   intro g Q h
   simp only [wpc] at h
   unfold condT at h
   split at h
   ·rename_i b hb
    refine W_cond hb (fun hc=>?_) (fun hc=>?_)
    ·rcases ifB_cases h with ⟨h1,h2⟩ | ⟨h1,h2⟩
     ·exact ihx g Q h2
     ·rw [hc] at h1; cases h1
    ·rcases ifB_cases h with ⟨h1,h2⟩ | ⟨h1,h2⟩
     ·rw [hc] at h1; cases h1
     ·exact ihy g Q h2
   ·exact h.elim
 | block id c ih=>
   intro g Q h
   have:=ih g _ h
   refine W_block (fun X ν ac w hp hs=>wp_mono (this X ν ac w hp hs) fun e a' w' hl=>?_)
   cases e with
   | normal=>exact hl
   | exit i=>
     obtain ⟨g',ν',h1,h2⟩:=hl
     refine ⟨g',ν',?_,h2⟩
     simp only [blockT] at h1
     simp only [blockQ]
     split at h1
     ·rename_i he
      rw [if_pos (Nat.eq_of_beq_eq_true he)]
      exact h1
     ·rename_i he
      rw [if_neg (fun e=>by subst e; simp at he)]
      exact h1
   | ret=>exact hl
   | goto l=>exact hl
   | panic c=>exact hl
   | outgrown=>exact hl
 | region id ops dr=>
   intro g Q h
   simp only [wpc] at h
   cases dr with
   | false=>exact W_region (run_ok ops.toList none g h)
   | true=>exact W_drawn hm (run_ok ops.toList (some []) g h)
 | loop c _=>intro g Q h; exact h
 | _=>intro g Q h; simp [wpc] at h
end Go.Eng
