/-
  The symbolic layer, thirty-fourth text: exclusive or; what a call leaves, told otherwise. The symbolic layer, thirty-ninth text: what a slice owns is taken out of it, and put back. The symbolic layer, fortieth text: calls that only look at what they are given and leave what is the caller's own; rounds of loops that begin with a weakening. The symbolic layer, forty-first text: the head of a slice that owns slices. The symbolic layer, forty-second text: a drawn region looked through in every order; a choice that is left open. The symbolic layer, forty-third text: what the rows of a slice own is given out as data; the slice itself stays owned. The symbolic layer, forty-fourth text: what a slot holds is forgotten. The symbolic layer, forty-fifth text: maps from whole numbers to plain values, made by the call itself. The symbolic layer, forty-sixth text: copy at rows of more cells than one. The symbolic layer, forty-seventh text: rows moved up by one, in place.
-/
import Derived.Test.YtpidddienjoleaaGreatKAD
import Derived.Laws.IdiomCopy
import Derived.Deep.Draws
import Derived.Laws.Entries
import Derived.Test.YtpidddienjoleaaGreatKAB
import Derived.MapKept
import Derived.Laws.CopyRow
set_option linter.unusedVariables false
set_option linter.unusedSimpArgs false
namespace Go.Eng
open Go.RowKit
def xorI (a b:Int):Int:=((a.toNat ^^^ b.toNat:Nat):Int)
theorem xorI_nn (a b:Int):0 ≤ xorI a b:=Int.natCast_nonneg _
theorem bits_xor_i64 {a b:Int} (h1:0 ≤ a) (h2:a ≤ 9223372036854775807) (h3:0 ≤ b) (h4:b ≤ 9223372036854775807):bits .xor .i64 a b = xorI a b:=by
 obtain ⟨A,rfl⟩:=Int.eq_ofNat_of_zero_le h1
 obtain ⟨B,rfl⟩:=Int.eq_ofNat_of_zero_le h3
 have hx:A ^^^ B < 2 ^ 63:=Nat.xor_lt_two_pow (by omega) (by omega)
 have k1:(BitVec.ofInt 64 (A:Int)).toNat = A:=by
  rw [BitVec.ofInt_natCast,BitVec.toNat_ofNat]; exact Nat.mod_eq_of_lt (by omega)
 have k2:(BitVec.ofInt 64 (B:Int)).toNat = B:=by
  rw [BitVec.ofInt_natCast,BitVec.toNat_ofNat]; exact Nat.mod_eq_of_lt (by omega)
 show IntKind.i64.wrap ((BitVec.ofInt 64 (A:Int) ^^^ BitVec.ofInt 64 (B:Int)).toNat:Int) = _
 rw [BitVec.toNat_xor,k1,k2,wrap_i64 ⟨by omega,by omega⟩]
 simp [xorI]
section
variable {E:Env} {g:G} {d:Nat} {ty:TypeId} {pos:String} {aft:Array Edge} {gd:Option (Nat × Bool)}
theorem st_xor (x y:Operand) (m n:Int) (t u:TypeId) (hx:g.ev x = .d (.val (.int .i64 m))) (hy:g.ev y = .d (.val (.int .i64 n))) (h1:0 ≤ m) (h2:m ≤ 9223372036854775807) (h3:0 ≤ n) (h4:n ≤ 9223372036854775807) :
 StS E.P ⟨some d,.binOp .xor t x y u,ty,pos,aft,gd⟩ g ⟨sls x ++ sls y,[]⟩ ⟨some (d,.d (.val (.int .i64 (xorI m n)))),[]⟩:=
 st_val2 rfl hx hy rfl fun a w k1 k2=>by
  simp [execOp,k1,k2,eqGuard,binOp,intBits_xor,bits_xor_i64 h1 h2 h3 h4]
theorem atXor {m:Option (List Ky)} {gs:Option Nat} {rest:Tok → Option (List Ky) → G → Prop} {x y:Operand} {t u:TypeId} (a b:Int) (hx:g.ev x = .d (.val (.int .i64 a))) (hy:g.ev y = .d (.val (.int .i64 b))) (h1:0 ≤ a) (h2:a ≤ 9223372036854775807) (h3:0 ≤ b) (h4:b ≤ 9223372036854775807)
 (hr:rest .on (snocO m (mkKy (addG gs ⟨sls x ++ sls y,[]⟩) ⟨some (d,.d (.val (.int .i64 (xorI a b)))),[]⟩)) (g.app ⟨some (d,.d (.val (.int .i64 (xorI a b)))),[]⟩)):atOp E m gs ⟨some d,.binOp .xor t x y u,ty,pos,aft,gd⟩ g rest:=
 atOp_by (st_xor x y a b t u hx hy h1 h2 h3 h4) hr
end
theorem C.weak {P:Program} {f:FuncId} {args:List PV} {cst:List (Option En)} {res res':PV} {st st':List (Option En)} (m:List (Option Nat)) (h:C P f args cst (Eq2 res st)) (h1:wks ⟨[res],st⟩ m [res] [res'] ∧ wkEs ⟨[res],st⟩ m m st') (h3:nodL m st' = true) (h4:keeps cst.length 0 m = true):C P f args cst (Eq2 res' st'):=
 have hw:Wk cst.length m ⟨[res],st⟩ ⟨[res'],st'⟩:=⟨h1.1,h1.2,h3,h4⟩
 ⟨h.1,fun X vs k1 k2 k3=>(h.2 X vs k1 k2 k3).mono fun e w ⟨v,r,s,ν',e1,⟨e2,e3⟩,e4⟩=>by
  subst e2 e3
  have hp:Par X cst.length:=fun k hk=>by rw [k1] at hk; exact ent_lt hk
  obtain ⟨ν'',hs⟩:=weak_of hw X ν' _ _ hp e4
  exact ⟨v,_,_,ν'',e1,⟨rfl,rfl⟩,hs⟩⟩
end Go.Eng
namespace Go.Eng
open Go.RowKit
section
variable {P:Program} {w:World} {ok ok':Nat → Prop} {ν ν':Nat → Nm} {st st':Nat → Option En}
theorem TCells.zip:∀ (c:Nat) {x:List T} {u:List Value} {F:List Nat} {t:T},TCells P w ok ν st x u F → x[c]? = some t →
 ∃ v A Ft B,u[c]? = some v ∧ F = A ++ (Ft ++ B) ∧ TOk P w ok ν st t v Ft ∧
   ∀ (ok':Nat → Prop) (ν':Nat → Nm) (st':Nat → Option En),(∀ b,ok b → b < w.heap.size → ok' b ∧ w.heap[b]? = w.heap[b]?) → Mono st st' ν ν' → ∀ (t':T) (Ft':List Nat),TOk P w ok' ν' st' t' v Ft' → TCells P w ok' ν' st' (x.set c t') u (A ++ (Ft' ++ B))
 | _,[],_,_,_,_,h=>by simp at h
 | _,_ :: _,[],_,_,h,_=>by simp [TCells] at h
 | 0,a :: x,v :: u,F,t,h,ht=>by
   simp only [TCells] at h
   obtain ⟨F1,F2,h1,h2,rfl⟩:=h
   obtain rfl:a = t:=by simpa using ht
   refine ⟨v,[],F1,F2,rfl,rfl,h1,fun ok' ν' st' hw hm t' Ft' h'=>?_⟩
   simp only [List.set_cons_zero,TCells,List.nil_append]
   exact ⟨Ft',F2,h',TCells.frame hw (Nat.le_refl _) hm _ _ _ h2 fun _ _=>rfl,rfl⟩
 | c + 1,a :: x,v :: u,F,t,h,ht=>by
   simp only [TCells] at h
   obtain ⟨F1,F2,h1,h2,rfl⟩:=h
   obtain ⟨v',A,Ft,B,k1,rfl,k2,k3⟩:=TCells.zip c h2 (by simpa using ht)
   refine ⟨v',F1 ++ A,Ft,B,by simpa using k1,by simp,k2,fun ok' ν' st' hw hm t' Ft' h'=>?_⟩
   simp only [List.set_cons_succ,TCells]
   exact ⟨F1,_,TOk.frame hw (Nat.le_refl _) hm _ _ _ h1 fun _ _=>rfl,k3 ok' ν' st' hw hm t' Ft' h',by simp⟩
theorem TRows.zip:∀ (i c:Nat) {xs:List (List T)} {us:List (List Value)} {F:List Nat} {t:T},TRows P w ok ν st xs us F → i < xs.length → (rwT xs i)[c]? = some t →
 ∃ v A Ft B,F = A ++ (Ft ++ B) ∧ TOk P w ok ν st t v Ft ∧
   ∀ (ok':Nat → Prop) (ν':Nat → Nm) (st':Nat → Option En),(∀ b,ok b → b < w.heap.size → ok' b ∧ w.heap[b]? = w.heap[b]?) → Mono st st' ν ν' → ∀ (t':T) (Ft':List Nat),TOk P w ok' ν' st' t' v Ft' → TRows P w ok' ν' st' (xs.set i ((rwT xs i).set c t')) us (A ++ (Ft' ++ B))
 | _,_,[],_,_,_,_,h,_=>by simp at h
 | _,_,_ :: _,[],_,_,h,_,_=>by simp [TRows] at h
 | 0,c,a :: x,v :: u,F,t,h,_,ht=>by
   simp only [TRows] at h
   obtain ⟨F1,F2,h1,h2,rfl⟩:=h
   have ht:a[c]? = some t:=ht
   obtain ⟨v',A,Ft,B,k1,rfl,k2,k3⟩:=TCells.zip c h1 ht
   refine ⟨v',A,Ft,B ++ F2,by simp,k2,fun ok' ν' st' hw hm t' Ft' h'=>?_⟩
   show TRows P w ok' ν' st' (a.set c t' :: x) (v :: u) _
   simp only [TRows]
   exact ⟨_,F2,k3 ok' ν' st' hw hm t' Ft' h',TRows.frame hw (Nat.le_refl _) hm _ _ _ h2 fun _ _=>rfl,by simp⟩
 | i + 1,c,a :: x,v :: u,F,t,h,hi,ht=>by
   simp only [TRows] at h
   obtain ⟨F1,F2,h1,h2,rfl⟩:=h
   have ht:(rwT x i)[c]? = some t:=by simpa [rwT] using ht
   obtain ⟨v',A,Ft,B,rfl,k2,k3⟩:=TRows.zip i c h2 (by simpa using hi) ht
   refine ⟨v',F1 ++ A,Ft,B,by simp,k2,fun ok' ν' st' hw hm t' Ft' h'=>?_⟩
   have e:rwT (a :: x) (i + 1) = rwT x i:=by simp [rwT]
   rw [e]
   simp only [List.set_cons_succ,TRows]
   exact ⟨F1,_,TCells.frame hw (Nat.le_refl _) hm _ _ _ h1 fun _ _=>rfl,k3 ok' ν' st' hw hm t' Ft' h',by simp⟩
end
theorem nodup_mid {hb A Ft B:List Nat} (h:(hb ++ (A ++ (Ft ++ B))).Nodup):(hb ++ (A ++ B)).Nodup ∧ Ft.Nodup ∧ ∀ b ∈ hb ++ (A ++ B),b ∉ Ft:=by
 have hp:(hb ++ (A ++ (Ft ++ B))).Perm (Ft ++ (hb ++ (A ++ B))):=by
  rw [List.perm_iff_count]
  intro a
  simp only [List.count_append]
  omega
 have h':=hp.nodup_iff.1 h
 obtain ⟨h1,h2,h3⟩:=List.nodup_append.1 h'
 exact ⟨h2,h1,fun b hb1 hb2=>h3 b hb2 b hb1 rfl⟩
theorem nodup_mid' {hb A Ft B:List Nat} (h1:(hb ++ (A ++ B)).Nodup) (h2:Ft.Nodup) (h3:∀ b ∈ hb ++ (A ++ B),b ∉ Ft):(hb ++ (A ++ (Ft ++ B))).Nodup:=by
 have hp:(hb ++ (A ++ (Ft ++ B))).Perm (Ft ++ (hb ++ (A ++ B))):=by
  rw [List.perm_iff_count]
  intro a
  simp only [List.count_append]
  omega
 exact hp.nodup_iff.2 (List.nodup_append.2 ⟨h2,h1,fun a ha b hb hab=>h3 b hb (hab ▸ ha)⟩)
section
variable {P:Program} {g:G}
theorem takec1 (k i c:Nat) {e e':TypeId} {xs ys:List (List T)} (hk:g.at k = some (.tre e xs)) (hi:i < xs.length) (hc:(rwT xs i)[c]? = some (.own e' ys)) :
 Wk0 P g ⟨g.sl,setE (setE g.st k (some (.tre e (xs.set i ((rwT xs i).set c (.ref g.new)))))) g.new (some (.tre e' ys))⟩:=by
 intro X ν a w hs
 obtain ⟨us,ho,hul,hrr,hB,hnd⟩:=tre_en hs hk
 obtain ⟨v,A,Ft,B,hF,hv,hz⟩:=hrr.zip i c hi hc
 have hv0:=hv
 simp only [TOk] at hv
 obtain ⟨us',F1,q1,q2,q3,q4,rfl⟩:=hv
 rw [hF] at hnd
 obtain ⟨n1,n2,n3⟩:=nodup_mid hnd
 have hnew:=g.new_none
 have hkn:k ≠ g.new:=fun h=>by rw [← h,hk] at hnew; cases hnew
 generalize hg':(⟨g.sl,setE (setE g.st k (some (.tre e (xs.set i ((rwT xs i).set c (.ref g.new)))))) g.new (some (.tre e' ys))⟩:G) = g'
 have hat:∀ j,g'.at j = if j = g.new then some (.tre e' ys) else if j = k then some (.tre e (xs.set i ((rwT xs i).set c (.ref g.new)))) else g.at j:=by
  intro j
  rw [← hg']
  show ent (setE (setE g.st k _) g.new _) j = _
  rw [ent_setE,ent_setE]
  rfl
 refine ⟨fun j=>if j = g.new then ⟨v,F1⟩ else if j = k then ⟨(ν k).v,A ++ B⟩ else ν j,?_⟩
 generalize hν':(fun j=>if j = g.new then (⟨v,F1⟩:Nm) else if j = k then ⟨(ν k).v,A ++ B⟩ else ν j) = ν'
 have hνn:ν' g.new = ⟨v,F1⟩:=by rw [← hν']; simp
 have hνk:ν' k = ⟨(ν k).v,A ++ B⟩:=by rw [← hν']; simp [hkn]
 have hνo:∀ j,j ≠ g.new → j ≠ k → ν' j = ν j:=fun j h1 h2=>by rw [← hν']; simp [h1,h2]
 have hm:Mono g.at g'.at ν ν':=by
  intro j hj
  have h1:j ≠ g.new:=fun h=>by rw [h,hnew] at hj; cases hj
  refine ⟨?_,?_⟩
  ·by_cases h2:j = k
   ·rw [h2,hνk]
   ·rw [hνo j h1 h2]
  ·rw [hat,if_neg h1]
   split
   ·rfl
   ·exact hj
 have hasn:∀ b,(ν' g.new).has b ↔ b ∈ hb v ++ F1:=fun b=>by rw [hνn]; exact has_hb
 have hask:∀ b,(ν' k).has b ↔ b ∈ hb (ν k).v ++ (A ++ B):=fun b=>by rw [hνk]; exact has_hb
 have hasK:∀ b,(ν k).has b ↔ b ∈ hb (ν k).v ++ (A ++ ((hb v ++ F1) ++ B)):=fun b=>by rw [has_hb,hF]
 have sub1:∀ b,(ν' g.new).has b → (ν k).has b:=fun b h=>(hasK b).2 (by
  have:=(hasn b).1 h
  simp only [List.mem_append] at this ⊢
  rcases this with h | h
  ·exact .inr (.inr (.inl (.inl h)))
  ·exact .inr (.inr (.inl (.inr h))))
 have sub2:∀ b,(ν' k).has b → (ν k).has b:=fun b h=>(hasK b).2 (by
  have:=(hask b).1 h
  simp only [List.mem_append] at this ⊢
  rcases this with h | h | h
  ·exact .inl h
  ·exact .inr (.inl h)
  ·exact .inr (.inr (.inr h)))
 have back:∀ j e1,g'.at j = some e1 → e1.live = true → ∀ b,(ν' j).has b → ∃ j0 e0,g.at j0 = some e0 ∧ e0.live = true ∧ (ν j0).has b ∧ (j ≠ g.new → j0 = j) ∧ (j = g.new → j0 = k):=by
  intro j e1 h1 h2 b hb1
  by_cases hj:j = g.new
  ·subst hj
   exact ⟨k,_,hk,rfl,sub1 b hb1,fun h=>absurd rfl h,fun _=>rfl⟩
  ·by_cases hjk:j = k
   ·subst hjk
    exact ⟨j,_,hk,rfl,sub2 b hb1,fun _=>rfl,fun h=>absurd h hj⟩
   ·rw [hat,if_neg hj,if_neg hjk] at h1
    rw [hνo j hj hjk] at hb1
    exact ⟨j,e1,h1,h2,hb1,fun _=>rfl,fun h=>absurd h hj⟩
 have hown:∀ b,Own ν' g'.at b → Own ν g.at b:=by
  rintro b ⟨j,e1,h1,h2,h3⟩
  obtain ⟨j0,e0,k1,k2,k3,_⟩:=back j e1 h1 h2 b h3
  exact ⟨j0,e0,k1,k2,k3⟩
 have hw:∀ b,Free X ν g.at b → b < w.heap.size → Free X ν' g'.at b ∧ w.heap[b]? = w.heap[b]?:=fun b hb _=>⟨⟨fun ho=>hb.1 (hown b ho),hb.2⟩,rfl⟩
 refine hs.upd (g':=g') (ν':=ν') (fun _=>False) (Chg.refl _ w) (fun _ hb=>hb.elim) hm ?_ ?_ ?_ ?_ ?_ ?_ rfl
 ·intro j e1 hj
  rw [hat] at hj
  by_cases hjn:j = g.new
  ·rw [if_pos hjn] at hj
   obtain rfl:=Option.some.inj hj
   subst hjn
   refine .inr ⟨?_,?_⟩
   ·rw [hνn]
    exact TOk.frame hw (Nat.le_refl _) hm _ _ _ hv0 fun _ _=>rfl
   ·rw [hνn]; exact n2
  ·rw [if_neg hjn] at hj
   by_cases hjk:j = k
   ·rw [if_pos hjk] at hj
    obtain rfl:=Option.some.inj hj
    subst hjk
    refine .inr (en_tre (us:=us) ?_ hul ?_ (by simpa using hB) ?_)
    ·rw [hνk]; simpa using ho
    ·rw [hνk]
     have:=hz _ ν' g'.at hw hm (.ref g.new) [] (by
      simp only [TOk,and_true]
      exact ⟨by rw [hat,if_pos rfl]; rfl,by rw [hνn]⟩)
     simpa using this
    ·rw [hνk]; exact n1
   ·rw [if_neg hjk] at hj
    exact .inl ⟨hj,hνo j hjn hjk,fun _ _ _ hb=>hb⟩
 ·intro j e1 b h1 h2 h3
  exact .inl (hown b ⟨j,e1,h1,h2,h3⟩)
 ·intro j j' e1 e2 b h1 h2 h3 h4 h5 h6
  obtain ⟨j0,e0,k1,k2,k3,k4,k5⟩:=back j e1 h1 h3 b h5
  obtain ⟨j1,e3,l1,l2,l3,l4,l5⟩:=back j' e2 h2 h4 b h6
  have hjj:=hs.inj j0 j1 e0 e3 b k1 l1 k2 l2 k3 l3
  by_cases hj:j = g.new
  ·by_cases hj':j' = g.new
   ·rw [hj,hj']
   ·have e1:=k5 hj
    have e2:=l4 hj'
    have e3:j' = k:=by rw [← e2,← hjj,e1]
    subst hj e3
    exact (n3 b ((hask b).1 h6) ((hasn b).1 h5)).elim
  ·by_cases hj':j' = g.new
   ·have e1:=k4 hj
    have e2:=l5 hj'
    have e3:j = k:=by rw [← e1,hjj,e2]
    subst hj' e3
    exact (n3 b ((hask b).1 h5) ((hasn b).1 h6)).elim
   ·rw [← k4 hj,← l4 hj',hjj]
 ·intro j hj
  rw [hat] at hj
  by_cases hjn:j = g.new
  ·right
   rw [hjn,hνn]
   exact row_one q1
  ·rw [if_neg hjn] at hj
   by_cases hjk:j = k
   ·exact .inl (by rw [hjk,hk]; rfl)
   ·rw [if_neg hjk] at hj
    exact .inl hj
 ·rw [← hg']; exact hs.size
 ·intro t
  exact .inl ⟨by rw [← hg'],rfl⟩
theorem putc1 (k i c j:Nat) {e e':TypeId} {xs ys:List (List T)} (hk:g.at k = some (.tre e xs)) (hi:i < xs.length) (hc:(rwT xs i)[c]? = some (.ref j)) (hj:g.at j = some (.tre e' ys)) (hjk:j ≠ k) :
 Wk0 P g ⟨g.sl,setE (setE g.st k (some (.tre e (xs.set i ((rwT xs i).set c (.own e' ys)))))) j (some .dead)⟩:=by
 intro X ν a w hs
 obtain ⟨us,ho,hul,hrr,hB,hnd⟩:=tre_en hs hk
 obtain ⟨v,A,Ft,B,hF,hv,hz⟩:=hrr.zip i c hi hc
 simp only [TOk] at hv
 obtain ⟨hv1,rfl,rfl⟩:=hv
 obtain ⟨hen,hndj⟩:=hs.en j _ hj
 simp only [List.nil_append] at hF
 rw [hF] at hnd
 generalize hg':(⟨g.sl,setE (setE g.st k (some (.tre e (xs.set i ((rwT xs i).set c (.own e' ys)))))) j (some .dead)⟩:G) = g'
 have hat:∀ l,g'.at l = if l = j then some .dead else if l = k then some (.tre e (xs.set i ((rwT xs i).set c (.own e' ys)))) else g.at l:=by
  intro l
  rw [← hg']
  show ent (setE (setE g.st k _) j _) l = _
  rw [ent_setE,ent_setE]
  rfl
 refine ⟨fun l=>if l = k then ⟨(ν k).v,A ++ ((hb (ν j).v ++ (ν j).f) ++ B)⟩ else ν l,?_⟩
 generalize hν':(fun l=>if l = k then (⟨(ν k).v,A ++ ((hb (ν j).v ++ (ν j).f) ++ B)⟩:Nm) else ν l) = ν'
 have hνk:ν' k = ⟨(ν k).v,A ++ ((hb (ν j).v ++ (ν j).f) ++ B)⟩:=by rw [← hν']; simp
 have hνo:∀ l,l ≠ k → ν' l = ν l:=fun l h1=>by rw [← hν']; simp [h1]
 have hm:Mono g.at g'.at ν ν':=by
  intro l hl
  refine ⟨?_,?_⟩
  ·by_cases h2:l = k
   ·rw [h2,hνk]
   ·rw [hνo l h2]
  ·rw [hat]
   split
   ·rfl
   ·split
    ·rfl
    ·exact hl
 have hask:∀ b,(ν' k).has b → (ν k).has b ∨ (ν j).has b:=fun b h=>by
  rw [hνk,has_hb] at h
  rw [has_hb,has_hb,hF]
  simp only [List.mem_append] at h ⊢
  rcases h with h | h | (h | h) | h
  ·exact .inl (.inl h)
  ·exact .inl (.inr (.inl h))
  ·exact .inr (.inl h)
  ·exact .inr (.inr h)
  ·exact .inl (.inr (.inr h))
 have back:∀ l e1,g'.at l = some e1 → e1.live = true → ∀ b,(ν' l).has b → (l = k ∧ ((ν k).has b ∨ (ν j).has b)) ∨ (l ≠ k ∧ l ≠ j ∧ g.at l = some e1 ∧ (ν l).has b):=by
  intro l e1 h1 h2 b hb1
  rw [hat] at h1
  by_cases hlj:l = j
  ·rw [if_pos hlj] at h1
   obtain rfl:=Option.some.inj h1
   cases h2
  ·rw [if_neg hlj] at h1
   by_cases hlk:l = k
   ·subst hlk
    exact .inl ⟨rfl,hask b hb1⟩
   ·rw [if_neg hlk] at h1
    rw [hνo l hlk] at hb1
    exact .inr ⟨hlk,hlj,h1,hb1⟩
 have hown:∀ b,Own ν' g'.at b → Own ν g.at b:=by
  rintro b ⟨l,e1,h1,h2,h3⟩
  rcases back l e1 h1 h2 b h3 with ⟨_,h | h⟩ | ⟨_,_,h4,h5⟩
  ·exact ⟨k,_,hk,rfl,h⟩
  ·exact ⟨j,_,hj,rfl,h⟩
  ·exact ⟨l,e1,h4,h2,h5⟩
 have hw:∀ b,Free X ν g.at b → b < w.heap.size → Free X ν' g'.at b ∧ w.heap[b]? = w.heap[b]?:=fun b hb _=>⟨⟨fun ho=>hb.1 (hown b ho),hb.2⟩,rfl⟩
 refine hs.upd (g':=g') (ν':=ν') (fun _=>False) (Chg.refl _ w) (fun _ hb=>hb.elim) hm ?_ ?_ ?_ ?_ ?_ ?_ rfl
 ·intro l e1 hl
  rw [hat] at hl
  by_cases hlj:l = j
  ·rw [if_pos hlj] at hl
   obtain rfl:=Option.some.inj hl
   exact .inr trivial
  ·rw [if_neg hlj] at hl
   by_cases hlk:l = k
   ·rw [if_pos hlk] at hl
    obtain rfl:=Option.some.inj hl
    subst hlk
    refine .inr (en_tre (us:=us) ?_ hul ?_ (by simpa using hB) ?_)
    ·rw [hνk]; simpa using ho
    ·rw [hνk]
     exact hz _ ν' g'.at hw hm (.own e' ys) _ (TOk.frame hw (Nat.le_refl _) hm _ _ _ hen fun _ _=>rfl)
    ·rw [hνk]
     refine nodup_mid' hnd hndj fun b h1 h2=>?_
     refine hjk (hs.inj j l _ _ b hj hk rfl rfl (has_hb.2 h2) (has_hb.2 ?_))
     rw [hF]; exact h1
   ·rw [if_neg hlk] at hl
    exact .inl ⟨hl,hνo l hlk,fun _ _ _ hb=>hb⟩
 ·intro l e1 b h1 h2 h3
  exact .inl (hown b ⟨l,e1,h1,h2,h3⟩)
 ·intro l l' e1 e2 b h1 h2 h3 h4 h5 h6
  rcases back l e1 h1 h3 b h5 with ⟨rfl,p1⟩ | ⟨p1,p2,p3,p4⟩
  ·rcases back l' e2 h2 h4 b h6 with ⟨rfl,q1⟩ | ⟨q1,q2,q3,q4⟩
   ·rfl
   ·rcases p1 with p1 | p1
    ·exact hs.inj l l' _ e2 b hk q3 rfl h4 p1 q4
    ·exact (q2 (hs.inj l' j e2 _ b q3 hj h4 rfl q4 p1)).elim
  ·rcases back l' e2 h2 h4 b h6 with ⟨rfl,q1⟩ | ⟨q1,q2,q3,q4⟩
   ·rcases q1 with q1 | q1
    ·exact hs.inj l l' e1 _ b p3 hk h3 rfl p4 q1
    ·exact (p2 (hs.inj l j e1 _ b p3 hj h3 rfl p4 q1)).elim
   ·exact hs.inj l l' e1 e2 b p3 q3 h3 h4 p4 q4
 ·intro l hl
  rw [hat] at hl
  by_cases hlj:l = j
  ·exact .inl (by rw [hlj,hj]; rfl)
  ·rw [if_neg hlj] at hl
   by_cases hlk:l = k
   ·exact .inl (by rw [hlk,hk]; rfl)
   ·rw [if_neg hlk] at hl
    exact .inl hl
 ·rw [← hg']; exact hs.size
 ·intro t
  exact .inl ⟨by rw [← hg'],rfl⟩
theorem Wk0.refl (g:G):Wk0 P g g:=fun _ ν _ _ h=>⟨ν,h⟩
theorem Wk0.weak {n0:Nat} {g g':G} (h:Wk0 P g g'):Weak P n0 g g':=fun X ν a w _ hs=>h X ν a w hs
theorem lift1 (j:Nat) {e:TypeId} {xs:List (List D)} (hj:g.at j = some (.acc e xs)):Wk0 P g ⟨g.sl,setE g.st j (some (.tre e (lift xs)))⟩:=fun _ ν _ _ h=>⟨ν,h.lift hj⟩
theorem setE_self:∀ {l:List (Option En)} {k:Nat} {e:En},ent l k = some e → setE l k (some e) = l
 | [],k,e,h=>by cases k <;> simp [ent] at h
 | _ :: _,0,_,h=>by simp only [ent] at h; simp [setE,h]
 | a :: l,k + 1,e,h=>by simp only [ent] at h; simp [setE,setE_self h]
theorem setE_length:∀ {l:List (Option En)} {k:Nat} (x:Option En),k < l.length → (setE l k x).length = l.length
 | [],k,_,h=>by simp at h
 | _ :: _,0,_,_=>rfl
 | a :: l,k + 1,x,h=>by simp [setE,setE_length x (by simpa using h)]
theorem setE_end:∀ (l:List (Option En)) (x:Option En),setE l l.length x = l ++ [x]
 | [],_=>rfl
 | a :: l,x=>by simp [setE,setE_end l x]
theorem setE_app:∀ {l m:List (Option En)} {k:Nat} (x:Option En),k < l.length → setE (l ++ m) k x = setE l k x ++ m
 | [],_,k,_,h=>by simp at h
 | _ :: _,_,0,_,_=>rfl
 | a :: l,m,k + 1,x,h=>by simp [setE,setE_app x (by simpa using h)]
theorem setE_comm:∀ (l:List (Option En)) (j k:Nat) (x y:Option En),j ≠ k → setE (setE l j x) k y = setE (setE l k y) j x
 | [],0,0,_,_,h=>absurd rfl h
 | [],0,k + 1,_,_,_=>rfl
 | [],j + 1,0,_,_,_=>rfl
 | [],j + 1,k + 1,x,y,h=>by simp [setE,setE_comm [] j k x y (by omega)]
 | _ :: _,0,0,_,_,h=>absurd rfl h
 | _ :: _,0,k + 1,_,_,_=>rfl
 | _ :: _,j + 1,0,_,_,_=>rfl
 | a :: l,j + 1,k + 1,x,y,h=>by simp [setE,setE_comm l j k x y (by omega)]
def tkCells:Nat → List T → List T
 | _,[]=>[]
 | n,.own _ _ :: ts=>.ref n :: tkCells (n + 1) ts
 | n,.leaf d :: ts=>.leaf d :: tkCells n ts
 | n,.ref j :: ts=>.ref j :: tkCells n ts
def tkEs:List T → List (Option En)
 | []=>[]
 | .own e xs :: ts=>some (.tre e xs) :: tkEs ts
 | .leaf _ :: ts=>tkEs ts
 | .ref _ :: ts=>tkEs ts
def apE:List (Option En) → List (Option En) → List (Option En)
 | [],m=>m
 | a :: l,m=>a :: apE l m
theorem apE_eq:∀ (l m:List (Option En)),apE l m = l ++ m
 | [],_=>rfl
 | a :: l,m=>by simp [apE,apE_eq l m]
theorem set_at_len {α:Type} (pre:List α) (a b:α) (r:List α):(pre ++ a :: r).set pre.length b = pre ++ b :: r:=by
 rw [List.set_append_right _ _ (Nat.le_refl _),Nat.sub_self,List.set_cons_zero]
theorem take_cells {k i:Nat} {e:TypeId}:∀ (rest pre:List T) (g:G) (xs:List (List T)),g.at k = some (.tre e xs) → i < xs.length → rwT xs i = pre ++ rest →
 Wk0 P g ⟨g.sl,apE (setE g.st k (some (.tre e (xs.set i (pre ++ tkCells g.new rest))))) (tkEs rest)⟩
 | [],pre,g,xs,hk,hi,hr=>by
   have e1:xs.set i pre = xs:=by
    rw [List.append_nil] at hr
    rw [← hr]
    refine List.ext_getElem? fun j=>?_
    rw [List.getElem?_set]
    by_cases hj:i = j
    ·subst hj; rw [if_pos rfl,if_pos hi,rwT_at hi]
    ·rw [if_neg hj]
   simp only [tkCells,tkEs,List.append_nil,apE_eq,e1]
   rw [setE_self hk]
   exact Wk0.refl g
 | .leaf d :: ts,pre,g,xs,hk,hi,hr=>by
   have:=take_cells ts (pre ++ [.leaf d]) g xs hk hi (by simpa using hr)
   simpa [tkCells,tkEs] using this
 | .ref d :: ts,pre,g,xs,hk,hi,hr=>by
   have:=take_cells ts (pre ++ [.ref d]) g xs hk hi (by simpa using hr)
   simpa [tkCells,tkEs] using this
 | .own e' ys :: ts,pre,g,xs,hk,hi,hr=>by
   have hkl:k < g.st.length:=ent_lt (by rw [show ent g.st k = _ from hk]; rfl)
   have hn:g.new = g.st.length:=lenE_eq g.st
   have h1:=takec1 (P:=P) k i pre.length hk hi (e':=e') (ys:=ys) (by rw [hr]; simp)
   have e1:(rwT xs i).set pre.length (.ref g.new) = pre ++ .ref g.new :: ts:=by rw [hr]; exact set_at_len _ _ _ _
   rw [e1] at h1
   have e2:setE (setE g.st k (some (.tre e (xs.set i (pre ++ .ref g.new :: ts))))) g.new (some (.tre e' ys)) = setE g.st k (some (.tre e (xs.set i (pre ++ .ref g.new :: ts)))) ++ [some (.tre e' ys)]:=by
    generalize some (En.tre e (xs.set i (pre ++ .ref g.new :: ts))) = z
    rw [hn,← setE_length z hkl,setE_end]
   rw [e2] at h1
   refine h1.trans ?_
   have hk1:(⟨g.sl,setE g.st k (some (.tre e (xs.set i (pre ++ .ref g.new :: ts)))) ++ [some (.tre e' ys)]⟩:G).at k = some (.tre e (xs.set i (pre ++ .ref g.new :: ts))):=by
    show ent _ k = _
    rw [← setE_app _ hkl,ent_setE,if_pos rfl]
   have hr1:rwT (xs.set i (pre ++ .ref g.new :: ts)) i = pre ++ .ref g.new :: ts:=by
    simp [rwT,List.getD,hi]
   have:=take_cells ts (pre ++ [.ref g.new]) ⟨g.sl,setE g.st k (some (.tre e (xs.set i (pre ++ .ref g.new :: ts)))) ++ [some (.tre e' ys)]⟩ _ hk1 (by simpa using hi) (by rw [hr1]; simp)
   have hn2:(⟨g.sl,setE g.st k (some (.tre e (xs.set i (pre ++ .ref g.new :: ts)))) ++ [some (.tre e' ys)]⟩:G).new = g.new + 1:=by
    rw [G.new,lenE_eq,hn]
    simp [setE_length _ hkl]
   rw [hn2] at this
   simp only [apE_eq,List.set_set] at this
   rw [setE_app _ (by rw [setE_length _ hkl]; exact hkl),setE_setE] at this
   simpa [tkCells,tkEs,apE_eq] using this
theorem take_row (k i:Nat) {e:TypeId} {xs:List (List T)} (row:List T) (hk:g.at k = some (.tre e xs)) (hi:i < xs.length) (hr:rwT xs i = row) :
 Wk0 P g ⟨g.sl,apE (setE g.st k (some (.tre e (xs.set i (tkCells g.new row))))) (tkEs row)⟩:=by
 have:=take_cells (P:=P) (k:=k) (i:=i) row [] g xs hk hi (by simpa using hr)
 simpa using this
def ptCells (k:Nat):List (Option En) → List T → List T
 | _,[]=>[]
 | st,.ref j :: ts=>match eqN j k,ent st j with
   | false,some (.tre e ys)=>.own e ys :: ptCells k (setE st j (some .dead)) ts
   | false,some (.acc e ys)=>.own e (lift ys) :: ptCells k (setE st j (some .dead)) ts
   | _,_=>.ref j :: ptCells k st ts
 | st,.leaf d :: ts=>.leaf d :: ptCells k st ts
 | st,.own e ys :: ts=>.own e ys :: ptCells k st ts
def ptEs (k:Nat):List (Option En) → List T → List (Option En)
 | st,[]=>st
 | st,.ref j :: ts=>match eqN j k,ent st j with
   | false,some (.tre _ _)=>ptEs k (setE st j (some .dead)) ts
   | false,some (.acc _ _)=>ptEs k (setE st j (some .dead)) ts
   | _,_=>ptEs k st ts
 | st,.leaf _ :: ts=>ptEs k st ts
 | st,.own _ _ :: ts=>ptEs k st ts
theorem eqN_ne {j k:Nat} (h:eqN j k = false):j ≠ k:=fun e=>by subst e; rw [eqN_self] at h; cases h
theorem pt_k {k:Nat} (x:Option En):∀ (ts:List T) (st:List (Option En)),ptCells k (setE st k x) ts = ptCells k st ts ∧ ptEs k (setE st k x) ts = setE (ptEs k st ts) k x
 | [],st=>⟨rfl,rfl⟩
 | .leaf d :: ts,st=>by
   obtain ⟨h1,h2⟩:=pt_k (k:=k) x ts st
   exact ⟨by simp [ptCells,h1],by simp [ptEs,h2]⟩
 | .own e ys :: ts,st=>by
   obtain ⟨h1,h2⟩:=pt_k (k:=k) x ts st
   exact ⟨by simp [ptCells,h1],by simp [ptEs,h2]⟩
 | .ref j :: ts,st=>by
   simp only [ptCells,ptEs]
   cases hj:eqN j k with
   | true=>
     obtain ⟨h1,h2⟩:=pt_k (k:=k) x ts st
     exact ⟨by simp [h1],by simp [h2]⟩
   | false=>
     have hne:=eqN_ne hj
     rw [ent_setE,if_neg hne]
     obtain ⟨h1,h2⟩:=pt_k (k:=k) x ts st
     obtain ⟨h3,h4⟩:=pt_k (k:=k) x ts (setE st j (some .dead))
     rw [setE_comm st j k _ _ hne] at h3 h4
     cases ent st j with
     | none=>exact ⟨by simp [h1],by simp [h2]⟩
     | some en=>cases en with
       | box cs=>exact ⟨by simp [h1],by simp [h2]⟩
       | dead=>exact ⟨by simp [h1],by simp [h2]⟩
       | map kvs=>exact ⟨by simp [h1],by simp [h2]⟩
       | acc e ys=>exact ⟨by simp [h3],by simp [h4]⟩
       | tre e ys=>exact ⟨by simp [h3],by simp [h4]⟩
theorem put_cells {k i:Nat} {e:TypeId}:∀ (rest pre:List T) (g:G) (xs:List (List T)),g.at k = some (.tre e xs) → i < xs.length → rwT xs i = pre ++ rest →
 Wk0 P g ⟨g.sl,setE (ptEs k g.st rest) k (some (.tre e (xs.set i (pre ++ ptCells k g.st rest))))⟩
 | [],pre,g,xs,hk,hi,hr=>by
   have e1:xs.set i pre = xs:=by
    rw [List.append_nil] at hr
    rw [← hr]
    refine List.ext_getElem? fun j=>?_
    rw [List.getElem?_set]
    by_cases hj:i = j
    ·subst hj; rw [if_pos rfl,if_pos hi,rwT_at hi]
    ·rw [if_neg hj]
   simp only [ptCells,ptEs,List.append_nil,e1]
   rw [setE_self hk]
   exact Wk0.refl g
 | .leaf d :: ts,pre,g,xs,hk,hi,hr=>by
   have:=put_cells ts (pre ++ [.leaf d]) g xs hk hi (by simpa using hr)
   simpa [ptCells,ptEs] using this
 | .own e' ys :: ts,pre,g,xs,hk,hi,hr=>by
   have:=put_cells ts (pre ++ [.own e' ys]) g xs hk hi (by simpa using hr)
   simpa [ptCells,ptEs] using this
 | .ref j :: ts,pre,g,xs,hk,hi,hr=>by
   have stay:(ptCells k g.st (.ref j :: ts) = .ref j :: ptCells k g.st ts) → (ptEs k g.st (.ref j :: ts) = ptEs k g.st ts) → Wk0 P g ⟨g.sl,setE (ptEs k g.st (.ref j :: ts)) k (some (.tre e (xs.set i (pre ++ ptCells k g.st (.ref j :: ts)))))⟩:=by
    intro h1 h2
    have:=put_cells ts (pre ++ [.ref j]) g xs hk hi (by simpa using hr)
    rw [h1,h2]
    simpa using this
   have go:∀ (e':TypeId) (ys:List (List T)) (g0:G),Wk0 P g g0 → g0.sl = g.sl → g0.at k = some (.tre e xs) → g0.at j = some (.tre e' ys) → j ≠ k → setE g0.st j (some .dead) = setE g.st j (some .dead) →
    Wk0 P g ⟨g.sl,setE (ptEs k (setE g.st j (some .dead)) ts) k (some (.tre e (xs.set i (pre ++ .own e' ys :: ptCells k (setE g.st j (some .dead)) ts))))⟩:=by
    intro e' ys g0 hw hsl hk0 hj0 hne hst
    refine hw.trans ?_
    have h1:=putc1 (P:=P) k i pre.length j hk0 hi (by rw [hr]; simp) hj0 hne
    have e1:(rwT xs i).set pre.length (.own e' ys) = pre ++ .own e' ys :: ts:=by rw [hr]; exact set_at_len _ _ _ _
    rw [e1,← setE_comm _ _ _ _ _ hne,hst,hsl] at h1
    refine h1.trans ?_
    have hk1:(⟨g.sl,setE (setE g.st j (some .dead)) k (some (.tre e (xs.set i (pre ++ .own e' ys :: ts))))⟩:G).at k = some (.tre e (xs.set i (pre ++ .own e' ys :: ts))):=by
     show ent _ k = _
     rw [ent_setE,if_pos rfl]
    have hr1:rwT (xs.set i (pre ++ .own e' ys :: ts)) i = pre ++ .own e' ys :: ts:=by simp [rwT,List.getD,hi]
    have:=put_cells ts (pre ++ [.own e' ys]) _ _ hk1 (by simpa using hi) (by rw [hr1]; simp)
    obtain ⟨q1,q2⟩:=pt_k (k:=k) (some (.tre e (xs.set i (pre ++ .own e' ys :: ts)))) ts (setE g.st j (some .dead))
    simp only [q1,q2,List.set_set,setE_setE] at this
    simpa using this
   cases hjk:eqN j k with
   | true=>exact stay (by simp [ptCells,hjk]) (by simp [ptEs,hjk])
   | false=>
     have hne:=eqN_ne hjk
     cases hen:ent g.st j with
     | none=>exact stay (by simp [ptCells,hjk,hen]) (by simp [ptEs,hjk,hen])
     | some en=>cases en with
       | box cs=>exact stay (by simp [ptCells,hjk,hen]) (by simp [ptEs,hjk,hen])
       | dead=>exact stay (by simp [ptCells,hjk,hen]) (by simp [ptEs,hjk,hen])
       | map kvs=>exact stay (by simp [ptCells,hjk,hen]) (by simp [ptEs,hjk,hen])
       | tre e' ys=>
         have:=go e' ys g (Wk0.refl g) rfl hk hen hne rfl
         simpa [ptCells,ptEs,hjk,hen] using this
       | acc e' ys=>
         have hk0:(⟨g.sl,setE g.st j (some (.tre e' (lift ys)))⟩:G).at k = some (.tre e xs):=by
          show ent _ k = _
          rw [ent_setE,if_neg (Ne.symm hne)]
          exact hk
         have hj0:(⟨g.sl,setE g.st j (some (.tre e' (lift ys)))⟩:G).at j = some (.tre e' (lift ys)):=by
          show ent _ j = _
          rw [ent_setE,if_pos rfl]
         have:=go e' (lift ys) ⟨g.sl,setE g.st j (some (.tre e' (lift ys)))⟩ (lift1 j hen) rfl hk0 hj0 hne (setE_setE _ _ _ _)
         simpa [ptCells,ptEs,hjk,hen] using this
theorem put_row (k i:Nat) {e:TypeId} {xs:List (List T)} (row:List T) (hk:g.at k = some (.tre e xs)) (hi:i < xs.length) (hr:rwT xs i = row) :
 Wk0 P g ⟨g.sl,setE (ptEs k g.st row) k (some (.tre e (xs.set i (ptCells k g.st row))))⟩:=by
 have:=put_cells (P:=P) (k:=k) (i:=i) row [] g xs hk hi (by simpa using hr)
 simpa using this
end
end Go.Eng
namespace Go.Eng
open Go.RowKit
def apN:List Nat → List Nat → List Nat
 | [],m=>m
 | a :: l,m=>a :: apN l m
theorem apN_eq:∀ (l m:List Nat),apN l m = l ++ m
 | [],_=>rfl
 | a :: l,m=>by simp [apN,apN_eq l m]
def sdD:D → Bool
 | .val _=>true
 | .str _=>true
 | .lst _=>false
def sdDs:List D → Bool
 | []=>true
 | d :: ds=>sdD d && sdDs ds
def sdRows:List (List D) → Bool
 | []=>true
 | x :: xs=>sdDs x && sdRows xs
mutual
def T.sd:T → Bool
 | .leaf d=>sdD d
 | .ref _=>true
 | .own _ xs=>sdTs xs
def sdT:List T → Bool
 | []=>true
 | t :: ts=>t.sd && sdT ts
def sdTs:List (List T) → Bool
 | []=>true
 | x :: xs=>sdT x && sdTs xs
end
mutual
def PV.sd:PV → Bool
 | .any=>true
 | .undef=>true
 | .nilS=>true
 | .d x=>sdD x
 | .agg cs=>sds cs
 | .tup cs=>sds cs
 | .ptr _ _=>true
 | .acc _=>true
 | .eptr _ _ _ _=>true
 | .iptr _ _ _=>false
 | .fn _ cs=>sds cs
def sds:List PV → Bool
 | []=>true
 | p :: ps=>p.sd && sds ps
end
def En.sd:En → Bool
 | .box cs=>sds cs
 | .acc _ xs=>sdRows xs
 | .tre _ xs=>sdTs xs
 | .map _=>true
 | .dead=>true
def sdEs:List (Option En) → Bool
 | []=>true
 | none :: es=>sdEs es
 | some e :: es=>e.sd && sdEs es
section
variable {P:Program} {w:World} {ok ok':Nat → Prop} {ν:Nat → Nm} {st:Nat → Option En}
theorem RepD.sd {d:D} {v:Value} (h:sdD d = true) (hr:RepD w ok d v):RepD w ok' d v:=by
 cases hr with
 | val v h'=>exact .val v h'
 | str l h'=>exact .str l h'
 | nil=>cases h
 | emp a c h'=>cases h
 | lst=>cases h
mutual
theorem TOk.sd:∀ (t:T) (v:Value) (F:List Nat),t.sd = true → TOk P w ok ν st t v F → TOk P w ok' ν st t v F
 | .leaf d,v,F,hs,h=>by simp only [TOk] at h ⊢; simp only [T.sd] at hs; exact ⟨h.1.sd hs,h.2⟩
 | .ref j,v,F,hs,h=>by simpa only [TOk] using h
 | .own e xs,v,F,hs,h=>by
   simp only [T.sd] at hs
   simp only [TOk] at h ⊢
   obtain ⟨us,F1,h1,h2,h3,h4,h5⟩:=h
   exact ⟨us,F1,h1,h2,TRows.sd xs us F1 hs h3,h4,h5⟩
theorem TCells.sd:∀ (ts:List T) (vs:List Value) (F:List Nat),sdT ts = true → TCells P w ok ν st ts vs F → TCells P w ok' ν st ts vs F
 | [],[],F,_,h=>by simpa only [TCells] using h
 | [],_ :: _,F,_,h=>by simp [TCells] at h
 | _ :: _,[],F,_,h=>by simp [TCells] at h
 | t :: ts,v :: vs,F,hs,h=>by
   simp only [sdT,Bool.and_eq_true] at hs
   simp only [TCells] at h ⊢
   obtain ⟨F1,F2,h1,h2,h3⟩:=h
   exact ⟨F1,F2,TOk.sd t v F1 hs.1 h1,TCells.sd ts vs F2 hs.2 h2,h3⟩
theorem TRows.sd:∀ (xs:List (List T)) (us:List (List Value)) (F:List Nat),sdTs xs = true → TRows P w ok ν st xs us F → TRows P w ok' ν st xs us F
 | [],[],F,_,h=>by simpa only [TRows] using h
 | [],_ :: _,F,_,h=>by simp [TRows] at h
 | _ :: _,[],F,_,h=>by simp [TRows] at h
 | x :: xs,u :: us,F,hs,h=>by
   simp only [sdTs,Bool.and_eq_true] at hs
   simp only [TRows] at h ⊢
   obtain ⟨F1,F2,h1,h2,h3⟩:=h
   exact ⟨F1,F2,TCells.sd x u F1 hs.1 h1,TRows.sd xs us F2 hs.2 h2,h3⟩
end
mutual
theorem RepPV.sd:∀ (p:PV) (v:Value),p.sd = true → RepPV w ok ν st p v → RepPV w ok' ν st p v
 | .any,_,_,_=>by simp only [RepPV]
 | .undef,_,_,h=>by simpa only [RepPV] using h
 | .nilS,_,_,h=>by simpa only [RepPV] using h
 | .d x,v,hs,h=>by simp only [RepPV] at h ⊢; exact h.sd hs
 | .agg cs,v,hs,h=>by
   simp only [RepPV] at h ⊢
   obtain ⟨vs,e,h⟩:=h
   exact ⟨vs,e,RepPVs.sd cs vs (by simpa only [PV.sd] using hs) h⟩
 | .tup cs,v,hs,h=>by
   simp only [RepPV] at h ⊢
   obtain ⟨vs,e,h⟩:=h
   exact ⟨vs,e,RepPVs.sd cs vs (by simpa only [PV.sd] using hs) h⟩
 | .ptr _ _,_,_,h=>by simpa only [RepPV] using h
 | .acc _,_,_,h=>by simpa only [RepPV] using h
 | .eptr _ _ _ _,_,_,h=>by simpa only [RepPV] using h
 | .iptr _ _ _,_,hs,_=>by simp [PV.sd] at hs
 | .fn f cs,v,hs,h=>by
   simp only [RepPV] at h ⊢
   obtain ⟨vs,e,h⟩:=h
   exact ⟨vs,e,RepPVs.sd cs vs (by simpa only [PV.sd] using hs) h⟩
theorem RepPVs.sd:∀ (ps:List PV) (vs:List Value),sds ps = true → RepPVs w ok ν st ps vs → RepPVs w ok' ν st ps vs
 | [],[],_,_=>by simp [RepPVs]
 | [],_ :: _,_,h=>by simp [RepPVs] at h
 | _ :: _,[],_,h=>by simp [RepPVs] at h
 | p :: ps,v :: vs,hs,h=>by
   simp only [sds,Bool.and_eq_true] at hs
   simp only [RepPVs] at h ⊢
   exact ⟨RepPV.sd p v hs.1 h.1,RepPVs.sd ps vs hs.2 h.2⟩
end
theorem sd_rows:∀ {xs:List (List D)},sdRows xs = true → ∀ (i j:Nat) (x:List D) (d:D),xs[i]? = some x → x[j]? = some d → sdD d = true:=by
 have h1:∀ {x:List D},sdDs x = true → ∀ (j:Nat) (d:D),x[j]? = some d → sdD d = true:=by
  intro x
  induction x with
  | nil=>intro _ j d h; simp at h
  | cons e x ih=>
    intro h j d hd
    simp only [sdDs,Bool.and_eq_true] at h
    cases j with
    | zero=>obtain rfl:e = d:=by simpa using hd
            exact h.1
    | succ j=>exact ih h.2 j d (by simpa using hd)
 intro xs
 induction xs with
 | nil=>intro _ i j x d h; simp at h
 | cons y xs ih=>
   intro h i j x d hx hd
   simp only [sdRows,Bool.and_eq_true] at h
   cases i with
   | zero=>obtain rfl:y = x:=by simpa using hx
           exact h1 h.1 j d hd
   | succ i=>exact ih h.2 i j x d (by simpa using hx) hd
theorem EnOk.sd {k:Nat} {e:En} (hs:e.sd = true) (h:EnOk P w ok ν st k e):EnOk P w ok' ν st k e:=by
 cases e with
 | dead=>trivial
 | box cs=>
   obtain ⟨b,vs,T,h1,h2,h3,h4⟩:=h
   exact ⟨b,vs,T,h1,h2,RepPVs.sd cs vs (by simpa only [En.sd] using hs) h3,h4⟩
 | acc e xs=>
   obtain ⟨us,h1,h2,h3,h4⟩:=h
   exact ⟨us,h1,⟨h2.len,h2.hx,h2.hu,fun i j x u d v k1 k2 k3 k4=>(h2.hr i j x u d v k1 k2 k3 k4).sd (sd_rows (by simpa only [En.sd] using hs) i j x d k1 k3)⟩,h3,h4⟩
 | tre e xs=>exact ⟨TOk.sd (.own e xs) _ _ (by simpa only [T.sd,En.sd] using hs) h.1,h.2⟩
 | map kvs=>exact h
theorem sdEs_at:∀ {es:List (Option En)},sdEs es = true → ∀ (i:Nat) (e:En),ent es i = some e → e.sd = true
 | [],_,i,e,h=>by cases i <;> simp [ent] at h
 | none :: es,hs,0,e,h=>by simp [ent] at h
 | none :: es,hs,i + 1,e,h=>sdEs_at (es:=es) (by simpa only [sdEs] using hs) i e (by simpa [ent] using h)
 | some a :: es,hs,0,e,h=>by
   simp only [sdEs,Bool.and_eq_true] at hs
   obtain rfl:a = e:=by simpa [ent] using h
   exact hs.1
 | some a :: es,hs,i + 1,e,h=>by
   simp only [sdEs,Bool.and_eq_true] at hs
   exact sdEs_at hs.2 i e (by simpa [ent] using h)
end
theorem op_lookO {P:Program} {o:Oper} {g:G} {fop:Operand} {xs:List Operand} {tys:Array TypeId} {d:Nat} (ho:o.op = .call ⟨.value fop,⟨xs⟩,tys⟩) (hd:o.dst = some d) {f:FuncId} {cap:List PV} (hfn:g.ev fop = .fn f cap)
 (ks m:List Nat) (cargs:List PV) (res:PV) (st':List (Option En)) (hC:C P f cargs [] (Eq2 res st')) (hargs:Vws g ks (xs.map g.ev ++ cap) cargs) (hsd:res.sd = true) (hse:sdEs st' = true) (hm:m.Nodup) (hnew:FreshL g 0 m) (hml:st'.length ≤ m.length)
 (X:Cx) (ν:Nat → Nm) (a:Act) (w:World) (next:Act → World → Prop) (Q:Exit → Act → World → Prop) (hs:Sat P X ν g a w)
 (hn:∀ ν' a' w',Sat P X ν' ⟨setN g.sl d (res.ren m),upE g.st (upOf m m st')⟩ a' w' → next a' w'):o.wp P a w next Q:=by
 have hfv:=hs.ev fop
 rw [hfn] at hfv
 simp only [RepPV] at hfv
 obtain ⟨vcap,hfv,hcap⟩:=hfv
 have hxs:=rep_evs hs xs
 let Xc:Cx:=⟨w,Own (fun i=>ν (look m i)) (ent []),fun i=>ν (look m i),ent [],X.Z⟩
 have hno:∀ (ν:Nat → Nm) b,¬ Own ν (ent []) b:=by
  rintro ν b ⟨k,e,h,_⟩
  cases k <;> simp [ent] at h
 have hw:∀ b,Free X ν g.at b → b < w.heap.size → Free Xc (fun i=>ν (look m i)) (ent []) b ∧ w.heap[b]? = w.heap[b]?:=fun b hb _=>⟨⟨hno _ b,hb.2⟩,rfl⟩
 have hown:∀ b,Own ν g.at b → Free Xc (fun i=>ν (look m i)) (ent []) b:=fun b hb=>⟨hno _ b,hs.notZ hb⟩
 have hall:RepPVs w (Free Xc (fun i=>ν (look m i)) (ent [])) (fun i=>ν (look m i)) (ent []) cargs (xs.map a.eval ++ vcap):=RepPVs.vw hs hw hown _ hargs (hxs.app hcap)
 obtain ⟨⟨fn,hfn1,hfn2,hfn3⟩,hC⟩:=hC
 have hr:(execOp a.eval o).run P w = .ok (.enter f ⟨xs.map a.eval ++ vcap⟩) w:=by
  have n1 : ¬ fn.name = "runtime.NumGoroutine" := by simpa using hfn3
  have n2:¬ fn.body = none:=fun e=>by rw [e] at hfn2; cases hfn2
  simp [execOp,ho,resolve,hfv,Deferred.ofValue,invoke,callFunc,program,hfn1,n1,n2,Sem.run]
 have hat:∀ k,(⟨cargs,[]⟩:G).at k = none:=fun k=>by cases k <;> rfl
 have hent:Sat P Xc (fun i=>ν (look m i)) ⟨cargs,[]⟩ ⟨⟨xs.map a.eval ++ vcap⟩,[]⟩ w:=by
  refine ⟨by simpa using hall.length,fun t=>?_,fun k e h=>?_,fun k k' e e' b h=>?_,fun b hb=>?_,fun k h=>?_,fun k h=>?_,⟨fun b hb=>?_,hs.kt rfl fun b hb=>(hno _ b hb).elim⟩,Chg.refl _ w,rfl⟩
  ·have key:∀ (ps:List PV) (us:List Value) (t:Nat),RepPVs w (Free Xc (fun i=>ν (look m i)) (ent [])) (fun i=>ν (look m i)) (ent []) ps us → RepPV w (Free Xc (fun i=>ν (look m i)) (ent [])) (fun i=>ν (look m i)) (ent []) (nth ps t) (us.getD t Go.undef):=by
    intro ps
    induction ps with
    | nil=>intro us t _; cases t <;> simp [nth,RepPV]
    | cons p ps ih=>
      intro us t hr
      cases us with
      | nil=>simp [RepPVs] at hr
      | cons u us=>
        simp only [RepPVs] at hr
        cases t with
        | zero=>simpa [nth] using hr.1
        | succ t=>simpa [nth] using ih us t hr.2
   have:=key cargs _ t hall
   show RepPV w (Free Xc (fun i=>ν (look m i)) (ent [])) (fun i=>ν (look m i)) (ent []) (nth cargs t) ((⟨xs.map a.eval ++ vcap⟩:Array Value).getD t Go.undef)
   simpa [Array.getD_eq_getD_getElem?] using this
  ·rw [hat] at h; cases h
  ·rw [hat] at h; cases h
  ·exact (hno _ b hb).elim
  ·rw [hat] at h; cases h
  ·exact ⟨rfl,h⟩
  ·exact ⟨Nat.lt_of_lt_of_le (hs.zlt b hb).1 hs.chg.size,hno _ b⟩
 unfold Oper.wp
 rw [hr,Oper.upon_enter]
 refine (hC Xc (xs.map a.eval ++ vcap) rfl rfl hent).mono ?_
 rintro e w' ⟨v,res',st2,ν',rfl,⟨rfl,rfl⟩,hsat⟩
 let Xd:Cx:=⟨w,Own (fun i=>ν (look m i)) (ent []),fun i=>ν (look m i),ent [],fun b=>X.Z b ∨ (Own ν g.at b ∧ ¬ Own (fun i=>ν (look m i)) (ent []) b)⟩
 have hsat2:sat1 P Xd ν' res' st2 v w':=by
  refine ⟨hsat.size,fun t=>?_,fun k e h=>EnOk.sd (sdEs_at hse k e h) (hsat.en k e h),hsat.inj,hsat.base,hsat.nu,hsat.par,⟨fun b hb=>?_,hsat.zlt.k⟩,hsat.chg,hsat.defs⟩
  ·have hx:(nth [res'] t).sd = true:=by
    cases t with
    | zero=>exact hsd
    | succ t=>cases t <;> rfl
   exact RepPV.sd _ _ hx (hsat.sl t)
  ·rcases hb with hb | hb
   ·exact hsat.zlt b hb
   ·exact ⟨hs.lt hb.1,hno _ b⟩
 obtain ⟨ν'',hs'⟩:=hs.leave m [] st2 hm hml (Nat.zero_le _) (fun i hi=>by simp at hi) (fun i hi hi'=>hnew.at i hi (by omega)) Xd rfl (fun _ _=>rfl) rfl rfl rfl hsat2 d
 show next (a.put o.dst v) w'
 rw [hd]
 exact hn ν'' _ _ hs'
section
variable {E:Env} {g:G} {d:Nat} {ty:TypeId} {pos:String} {aft:Array Edge} {gd:Option (Nat × Bool)}
theorem st_lookO (fop:Operand) (xs:List Operand) (tys:Array TypeId) (f:FuncId) (cap:List PV) (hfn:g.ev fop = .fn f cap) (ks M:List Nat) (cargs:List PV) (res:PV) (st':List (Option En)) (hC:C E.P f cargs [] (Eq2 res st'))
 (hargs:Vws g ks (xs.map g.ev ++ cap) cargs) (hsd:res.sd = true) (hse:sdEs st' = true) (hm:M.Nodup) (hnew:FreshL g 0 M) (hml:st'.length ≤ M.length) :
 StS E.P ⟨some d,.call ⟨.value fop,⟨xs⟩,tys⟩,ty,pos,aft,gd⟩ g ⟨sls fop ++ xs.flatMap sls,ks ++ M⟩ ⟨some (d,res.ren M),upOf M M st'⟩:=by
 intro g2 hg
 have e1:=hg.ev (x:=fop) (fun t h=>by simp [h])
 have e2:=evs_agree hg xs (fun t h=>by simp only [List.mem_append]; exact .inr h)
 have hfr:∀ (ks':List Nat) (n:Nat),(∀ k ∈ ks',k ∈ M) → FreshL g n ks' → FreshL g2 n ks':=by
  intro ks'
  induction ks' with
  | nil=>intro n _ _; cases n <;> trivial
  | cons k ks' ih=>
    intro n hk h
    cases n with
    | zero=>
      simp only [FreshL] at h ⊢
      exact ⟨by rw [hg.p k (by simp [hk k (by simp)])]; exact h.1,ih 0 (fun k h=>hk k (by simp [h])) h.2⟩
    | succ n=>
      simp only [FreshL] at h ⊢
      exact ih n (fun k h=>hk k (by simp [h])) h
 intro X ν a w next Q hs hn
 exact op_lookO rfl rfl (by rw [e1,hfn]) ks M cargs res st' hC (by rw [e2]; exact hargs.agree (fun k hk=>hg.p k (by simp [hk]))) hsd hse hm (hfr M 0 (fun _ h=>h) hnew) hml X ν a w next Q hs hn
theorem atLookO {m:Option (List Ky)} {gs:Option Nat} {rest:Tok → Option (List Ky) → G → Prop} {fop:Operand} {xs:List Operand} {tys:Array TypeId} {f:FuncId} (cap:List PV) (ks M:List Nat) {cargs:List PV} {res:PV} {st':List (Option En)}
 (hC:C E.P f cargs [] (Eq2 res st')) (h1:g.ev fop = .fn f cap) (h2:Vws g ks (evs g xs ++ cap) cargs) (h3:res.sd = true ∧ sdEs st' = true ∧ nodN M = true ∧ leN (lenE st') (lenN M) = true ∧ FreshL g 0 M)
 (hr:rest .on (snocO m (mkKy (addG gs ⟨sls fop ++ slss xs,apN ks M⟩) ⟨some (d,res.ren M),upOf M M st'⟩)) (g.app ⟨some (d,res.ren M),upOf M M st'⟩)):atOp E m gs ⟨some d,.call ⟨.value fop,⟨xs⟩,tys⟩,ty,pos,aft,gd⟩ g rest:=by
 rw [slss_eq,apN_eq] at hr
 rw [evs_eq] at h2
 obtain ⟨k1,k2,k3,k4,k5⟩:=h3
 have k4:=leN_le k4
 rw [lenE_eq,lenN_eq] at k4
 exact atOp_by (st_lookO fop xs tys f cap h1 ks M cargs res st' hC h2 k1 k2 (nodN_ok k3) k5 k4) hr
end
section
variable {E:Env} {n0:Nat} {g:G} {c:Code} {Q:Ex → G → Prop}
theorem weak_put {P:Program} {g':G} (k i:Nat) {e:TypeId} {xs:List (List T)} (row:List T) (hk:g.at k = some (.tre e xs)) (hi:i < xs.length) (hr:rwT xs i = row)
 (h:Weak P n0 ⟨g.sl,setE (ptEs k g.st row) k (some (.tre e (xs.set i (ptCells k g.st row))))⟩ g'):Weak P n0 g g':=Weak.trans (Wk0.weak (put_row k i row hk hi hr)) h
end
theorem rwT_set {xs:List (List T)} {i:Nat} {r:List T} (h:i < xs.length):rwT (xs.set i r) i = r:=by simp [rwT,List.getD,h]
theorem rwT_end (xs:List (List T)) (r:List T):rwT (xs ++ [r]) xs.length = r:=by simp [rwT,List.getD]
theorem rwT_endn {xs:List (List T)} {r:List T} {n:Nat} (h:xs.length = n):rwT (xs ++ [r]) n = r:=by subst h; exact rwT_end xs r
theorem set_endn {xs:List (List T)} {r r':List T} {n:Nat} (h:xs.length = n):(xs ++ [r]).set n r' = xs ++ [r']:=by subst h; exact set_at_len xs r r' []
attribute [go_sem] sdD sdDs sdRows T.sd sdT sdTs PV.sd sds En.sd sdEs apN tkCells tkEs apE ptCells ptEs List.set_set rwT_end List.length_set
end Go.Eng
namespace Go.Eng
open Go.RowKit
section
variable {P:Program} {w:World} {ok:Nat → Prop} {ν:Nat → Nm} {st:Nat → Option En}
theorem TRows.split:∀ (n:Nat) {x:List (List T)} {u:List (List Value)} {F:List Nat},TRows P w ok ν st x u F → ∃ F1 F2,TRows P w ok ν st (x.take n) (u.take n) F1 ∧ F = F1 ++ F2
 | 0,x,u,F,h=>⟨[],F,by simp [TRows],rfl⟩
 | n + 1,[],[],F,h=>⟨[],F,by simp [TRows],rfl⟩
 | _ + 1,[],_ :: _,_,h=>by simp [TRows] at h
 | _ + 1,_ :: _,[],_,h=>by simp [TRows] at h
 | n + 1,t :: ts,a :: u,F,h=>by
   simp only [TRows] at h
   obtain ⟨F1,F2,h1,h2,rfl⟩:=h
   obtain ⟨G1,G2,k1,rfl⟩:=TRows.split n h2
   refine ⟨F1 ++ G1,G2,?_,by rw [List.append_assoc]⟩
   simp only [List.take_succ_cons,TRows]
   exact ⟨F1,G1,h1,k1,rfl⟩
end
section
variable {E:Env} {g:G} {d:Nat} {ty:TypeId} {pos:String} {aft:Array Edge} {gd:Option (Nat × Bool)}
end
end Go.Eng
namespace Go.Eng
open Go.RowKit
def Expl (P:Program) (ops:Array Oper) (Q:Ex → G → Prop):Nat → Array Bool → G → Prop
 | 0,listed,g=>Region.ready .any ops listed = [] ∧ Q .normal g
 | f + 1,listed,g=>(Region.ready .any ops listed = [] → Q .normal g) ∧ ∀ i ∈ Region.ready .any ops listed,∃ o R δ,ops[i]? = some o ∧ StG P ops o g R δ ∧ Expl P ops Q f (listed.setIfInBounds i true) (g.app δ)
theorem Expl.ok {P:Program} {ops:Array Oper} {Q:Ex → G → Prop} {X:Cx}:∀ (f:Nat) (listed:Array Bool) (g:G) (ν:Nat → Nm) (a:Act) (w:World),Expl P ops Q f listed g → Sat P X ν g a w → wpAny P .any ops (Lift P X Q) f listed a w
 | 0,_,g,ν,_,_,h,hs=>⟨h.1,g,ν,h.2,hs⟩
 | f + 1,listed,g,ν,a,w,h,hs=>by
   refine ⟨fun hr=>⟨g,ν,h.1 hr,hs⟩,fun i hi=>?_⟩
   obtain ⟨o,R,δ,ho,hst,hx⟩:=h.2 i hi
   have:=hst g ⟨fun _ _=>rfl,fun _ _=>rfl⟩ X ν a w (wpAny P .any ops (Lift P X Q) f (listed.setIfInBounds i true)) (Lift P X Q) hs fun ν' a' w' hs'=>Expl.ok f _ _ ν' a' w' hx hs'
   unfold wpOp
   simp only [ho]
   by_cases hw:Region.wanted o (yielded ops a.tmps) = true
   ·simp only [hw,if_true] at this ⊢; exact .inl this
   ·simp only [hw,if_false] at this ⊢; exact this
section
variable {E:Env} {n0:Nat} {g:G} {Q:Ex → G → Prop}
end
end Go.Eng
namespace Go.Eng
open Go.RowKit
section
variable {P:Program} {g:G}
theorem frz_tre (k:Nat) {e:TypeId} {xs:List (List T)} {ys:List (List D)} (hk:g.at k = some (.tre e xs)) (hf:frzRows xs = some ys) :
 Wk0 P g ⟨g.sl,setE g.st k (some (.acc e ys))⟩:=by
 intro X ν a w hs
 obtain ⟨us,ho,hul,hrr,hB,hnd⟩:=tre_en hs hk
 generalize hg':(⟨g.sl,setE g.st k (some (.acc e ys))⟩:G) = g'
 have hat:∀ j,g'.at j = if j = k then some (.acc e ys) else g.at j:=by
  intro j
  rw [← hg']
  exact ent_setE g.st k _ j
 refine ⟨fun j=>if j = k then ⟨(ν k).v,[]⟩ else ν j,?_⟩
 generalize hν':(fun j=>if j = k then (⟨(ν k).v,[]⟩:Nm) else ν j) = ν'
 have hνk:ν' k = ⟨(ν k).v,[]⟩:=by rw [← hν']; simp
 have hνo:∀ j,j ≠ k → ν' j = ν j:=fun j h1=>by rw [← hν']; simp [h1]
 have hm:Mono g.at g'.at ν ν':=by
  intro j hj
  refine ⟨?_,?_⟩
  ·by_cases h2:j = k
   ·rw [h2,hνk]
   ·rw [hνo j h2]
  ·rw [hat]
   split
   ·rfl
   ·exact hj
 have hask:∀ b,(ν' k).has b ↔ b ∈ hb (ν k).v:=fun b=>by rw [hνk,has_hb]; simp
 have hasK:∀ b,(ν k).has b ↔ b ∈ hb (ν k).v ++ (ν k).f:=fun b=>has_hb
 have back:∀ j e1,g'.at j = some e1 → e1.live = true → ∀ b,(ν' j).has b → ∃ e0,g.at j = some e0 ∧ e0.live = true ∧ (ν j).has b:=by
  intro j e1 h1 h2 b hb1
  by_cases hjk:j = k
  ·subst hjk
   exact ⟨_,hk,rfl,(hasK b).2 (List.mem_append_left _ ((hask b).1 hb1))⟩
  ·rw [hat,if_neg hjk] at h1
   rw [hνo j hjk] at hb1
   exact ⟨e1,h1,h2,hb1⟩
 have hown:∀ b,Own ν' g'.at b → Own ν g.at b:=by
  rintro b ⟨j,e1,h1,h2,h3⟩
  obtain ⟨e0,k1,k2,k3⟩:=back j e1 h1 h2 b h3
  exact ⟨j,e0,k1,k2,k3⟩
 have hw:∀ b,Free X ν g.at b → b < w.heap.size → Free X ν' g'.at b ∧ w.heap[b]? = w.heap[b]?:=fun b hb _=>⟨⟨fun ho=>hb.1 (hown b ho),hb.2⟩,rfl⟩
 have hF:∀ b ∈ (ν k).f,Free X ν' g'.at b:=by
  intro b hbf
  have hKb:(ν k).has b:=(hasK b).2 (List.mem_append_right _ hbf)
  refine ⟨?_,hs.notZ ⟨k,_,hk,rfl,hKb⟩⟩
  rintro ⟨j,e1,h1,h2,h3⟩
  obtain ⟨e0,k1,k2,k3⟩:=back j e1 h1 h2 b h3
  have hjk:=hs.inj j k e0 _ b k1 hk k2 rfl k3 hKb
  subst hjk
  have h4:=(hask b).1 h3
  exact (List.nodup_append.1 hnd).2.2 b h4 b hbf rfl
 obtain ⟨l1,l2,l3⟩:=TRows.data hw xs us (ν k).f ys hf hrr hF
 have hrep:RepRows w (Free X ν' g'.at) (P.cellsOf e) ys us:=by
  refine ⟨l1,fun i x hx=>?_,fun i u hu=>hul i u hu,fun i j x u d v h1 h2 h3 h4=>(l3 i x u h1 h2).2 j d v h3 h4⟩
  have hi:i < us.length:=by
   have:=(List.getElem?_eq_some_iff.1 hx).1
   omega
  have hu:=List.getElem?_eq_getElem hi
  rw [(l3 i x _ hx hu).1]
  exact hul i _ hu
 refine hs.upd (g':=g') (ν':=ν') (fun _=>False) (Chg.refl _ w) (fun _ hb=>hb.elim) hm ?_ ?_ ?_ ?_ ?_ ?_ rfl
 ·intro j e1 hj
  rw [hat] at hj
  by_cases hjk:j = k
  ·rw [if_pos hjk] at hj
   obtain rfl:=Option.some.inj hj
   subst hjk
   refine .inr ⟨us,?_,hrep,by omega,by rw [hνk]⟩
   rw [hνk,← l2]
   exact ho
  ·rw [if_neg hjk] at hj
   exact .inl ⟨hj,hνo j hjk,fun _ _ _ hb=>hb⟩
 ·intro j e1 b h1 h2 h3
  exact .inl (hown b ⟨j,e1,h1,h2,h3⟩)
 ·intro j j' e1 e2 b h1 h2 h3 h4 h5 h6
  obtain ⟨e0,k1,k2,k3⟩:=back j e1 h1 h3 b h5
  obtain ⟨e3,l1,l2,l3⟩:=back j' e2 h2 h4 b h6
  exact hs.inj j j' e0 e3 b k1 l1 k2 l2 k3 l3
 ·intro j hj
  rw [hat] at hj
  by_cases hjk:j = k
  ·exact .inl (by rw [hjk,hk]; rfl)
  ·rw [if_neg hjk] at hj
   exact .inl hj
 ·rw [← hg']; exact hs.size
 ·intro t
  exact .inl ⟨by rw [← hg'],rfl⟩
end
theorem atWk {E:Env} {g g':G} {o:Oper} {rest:Tok → Option (List Ky) → G → Prop} (hw:Wk0 E.P g g') (h:atOp E none none o g' rest):atOp E none none o g rest:=by
 rcases h with ⟨R,δ,h1,h2⟩ | ⟨_,_,g2,h1,h2⟩
 ·exact .inr ⟨rfl,rfl,g',hw,R,δ,h1,h2⟩
 ·exact .inr ⟨rfl,rfl,g2,hw.trans h1,h2⟩
theorem FinW_put {E:Env} {rs:List ResultVar} {n0:Nat} {R:PV → List (Option En) → Prop} {g g':G} (hw:Wk0 E.P g g') (h:FinW E rs n0 R g'):FinW E rs n0 R g:=
 let ⟨g2,h1,h2⟩:=h
 ⟨g2,Weak.trans hw.weak h1,h2⟩
theorem rwT_two0 {xs:List (List T)} {r1 r2:List T} {n:Nat} (h:xs.length = n):rwT (xs ++ [r1,r2]) n = r1:=by subst h; simp [rwT,List.getD]
theorem rwT_two1 {xs:List (List T)} {r1 r2:List T} {n:Nat} (h:xs.length = n):rwT (xs ++ [r1,r2]) (n + 1) = r2:=by subst h; simp [rwT,List.getD]
theorem set_two0 {xs:List (List T)} {r1 r2 r:List T} {n:Nat} (h:xs.length = n):(xs ++ [r1,r2]).set n r = xs ++ [r,r2]:=by subst h; simp
theorem set_two1 {xs:List (List T)} {r1 r2 r:List T} {n:Nat} (h:xs.length = n):(xs ++ [r1,r2]).set (n + 1) r = xs ++ [r1,r]:=by subst h; simp
attribute [go_sem] onQ_on thenQ_n thenQ_r thenQ_e
end Go.Eng
namespace Go.Eng
open Go.RowKit
theorem WO_at {E:Env} {ops:Array Oper} {o:Oper} {os:List Oper} {g:G} {K:G → Prop} (hg:o.guard = none) (h:atOp E none none o g (fun _ _ g'=>WO E.P ops os g' K)):WO E.P ops (o :: os) g K:=by
 rcases h with ⟨R,δ,h1,h2⟩ | ⟨_,_,g',hw,R,δ,h1,h2⟩
 ·exact WO_cons (StG.plain hg h1) h2
 ·exact WO_weak hw (WO_cons (StG.plain hg h1) h2)
end Go.Eng
namespace Go.Eng
open Go.RowKit
def mapGet:List (Int × Value) → Int → Option Value
 | [],_=>none
 | p :: l,n=>if n = p.1 then some p.2 else mapGet l n
theorem findNow_map (n:Int):∀ (es:List MapEntry) (kvs:List (Int × Value)) (i:Nat),mapRows es = keyRows kvs →
 (mapGet kvs n = none → Instr.findNow (.int .i64) (.int .i64 n) es i = some none) ∧ (∀ v,mapGet kvs n = some v → ∃ j,Instr.findNow (.int .i64) (.int .i64 n) es i = some (some (j,v)))
 | [],[],i,_=>⟨fun _=>rfl,fun v h=>by cases h⟩
 | [],_ :: _,i,h=>by simp [mapRows,keyRows] at h
 | _ :: _,[],i,h=>by simp [mapRows,keyRows] at h
 | e :: es,p :: kvs,i,h=>by
   simp only [mapRows,keyRows,List.map_cons,List.cons.injEq,Prod.mk.injEq] at h
   obtain ⟨⟨h1,h2⟩,h3⟩:=h
   obtain ⟨i1,i2⟩:=findNow_map n es kvs (i + 1) h3
   simp only [mapGet,Instr.findNow,h1,Instr.sameNow,if_true]
   by_cases hn:n = p.1
   ·simp only [hn,if_true,beq_self_eq_true,h2]
    exact ⟨fun h=>by simp at h,fun v hv=>⟨i,by simpa using hv⟩⟩
   ·have:(n == p.1) = false:=by simpa using hn
    simp only [hn,if_false,this]
    exact ⟨i1,i2⟩
section
variable {E:Env} {g:G} {d:Nat} {ty:TypeId} {pos:String} {aft:Array Edge} {gd:Option (Nat × Bool)} {dn:Option Nat}
theorem rep_pvV {w:World} {ok:Nat → Prop} {ν:Nat → Nm} {st:Nat → Option En} {v:Value} (h:okV v = true):RepPV w ok ν st (pvV v) v:=by
 have key:∀ vs:List Value,(vs.all fun v=>v.oneCell') = true → RepPVs w ok ν st (vs.map fun v=>.d (.val v)) vs:=by
  intro vs
  induction vs with
  | nil=>intro _; simp [RepPVs]
  | cons v vs ih=>
    intro h
    simp only [List.all_cons,Bool.and_eq_true] at h
    simp only [List.map_cons,RepPVs,RepPV]
    exact ⟨.val v h.1,ih h.2⟩
 cases v with
 | agg cs=>simp only [okV] at h; simp only [pvV,RepPV]; exact ⟨cs.toList,rfl,key _ h⟩
 | _=>simp only [okV] at h; simp only [pvV,RepPV]; exact .val _ h
theorem pvV_inv {w:World} {ok:Nat → Prop} {ν:Nat → Nm} {st:Nat → Option En} {u v:Value} (h:RepPV w ok ν st (pvV u) v):v = u:=by
 have key:∀ us vs:List Value,RepPVs w ok ν st (us.map fun v=>.d (.val v)) vs → vs = us:=by
  intro us
  induction us with
  | nil=>intro vs h; cases vs with
    | nil=>rfl
    | cons v vs=>simp [RepPVs] at h
  | cons u us ih=>intro vs h; cases vs with
    | nil=>simp [RepPVs] at h
    | cons v vs=>
      simp only [List.map_cons,RepPVs] at h
      rw [rep_val h.1,ih vs h.2]
 cases u with
 | agg cs=>
   simp only [pvV,RepPV] at h
   obtain ⟨vs,rfl,h⟩:=h
   rw [key _ _ h]
 | _=>exact rep_val h
theorem st_mkmap (t k:Nat) (hk:g.at k = none):StS E.P ⟨some d,.makeMap t none,ty,pos,aft,gd⟩ g ⟨[],[k]⟩ ⟨some (d,.acc k),[(k,.map [])]⟩:=by
 intro g2 hg
 have h3:=(hg.p k (by simp)).trans hk
 intro X ν a w next Q hs hn
 have hr:(execOp a.eval ⟨some d,.makeMap t none,ty,pos,aft,gd⟩).run E.P w = .ok (.value (.map (some w.heap.size))) (w.alloc (.map #[] 0)):=rfl
 unfold Oper.wp
 rw [hr,Oper.upon_value]
 refine hn _ _ _ (hs.newblk (chg_alloc w _) k h3 (.map []) ⟨.map (some w.heap.size),[]⟩ rfl ?_ d _ _ ?_ ?_)
 ·intro b hb
  obtain rfl:w.heap.size = b:=by simpa [Nm.has,blk] using hb
  exact Nat.le_refl _
 ·intro ok st ν' hν hw hm
  exact ⟨w.heap.size,#[],0,by rw [hν],by rw [heap_new],rfl,fun p hp=>by simp at hp,by rw [hν]⟩
 ·intro ok st ν' hν hst hw hm
  simp only [RepPV]
  exact ⟨by rw [hst]; rfl,by rw [hν]⟩
theorem run_checkKey_int {P:Program} {kt:TypeId} (hk:P.underlying kt = some (.int .i64)) (b:Bool) (n:Int) (w:World):(Instr.checkKey b 10000 kt (.int .i64 n)).run P w = .ok () w:=
 MapKept.run_checkKey (k:=.int .i64 n) hk (by trivial) b 9999
theorem st_look_map (x y:Operand) (t kt et k:Nat) (kvs:List (Int × Value)) (n:Int) (v:Value) (ht:E.P.underlying t = some (.map kt et)) (hkt:E.P.underlying kt = some (.int .i64)) (hx:g.ev x = .acc k) (hk:g.at k = some (.map kvs)) (hy:g.ev y = .d (.val (.int .i64 n))) (hv:mapGet kvs n = some v) :
 StS E.P ⟨some d,.lookup t x y false,ty,pos,aft,gd⟩ g ⟨sls x ++ sls y,[k]⟩ ⟨some (d,pvV v),[]⟩:=by
 intro g2 hg
 have h1:=hg.ev (x:=x) (fun t h=>by simp [h])
 have h2:=hg.ev (x:=y) (fun t h=>by simp [h])
 have h3:=(hg.p k (by simp)).trans hk
 refine OpT.val rfl fun X ν a w hs=>?_
 have hvx:=hs.ev x
 rw [h1,hx] at hvx
 have hvy:=hs.ev y
 rw [h2,hy] at hvy
 have hvy:=rep_val hvy
 simp only [RepPV] at hvx
 obtain ⟨r,es,clock,q1,q2,q3,q4,q5⟩:=hs.en k _ h3
 obtain ⟨j,hj⟩:=(findNow_map n es.toList kvs 0 q3).2 v hv
 have hmem:∃ p ∈ kvs,p.2 = v:=by
  clear q3 q4 hj h3 hk
  induction kvs with
  | nil=>cases hv
  | cons p l ih=>
    simp only [mapGet] at hv
    split at hv
    ·exact ⟨p,by simp,by simpa using hv⟩
    ·obtain ⟨q,h1,h2⟩:=ih hv
     exact ⟨q,List.mem_cons_of_mem _ h1,h2⟩
 obtain ⟨p,hp1,hp2⟩:=hmem
 refine ⟨v,?_,rep_pvV (by rw [← hp2]; exact q4 p hp1)⟩
 simp only [execOp,hvx.2,q1,hvy,Instr.lookup,Sem.run_bind,run_underlying ht,Result.andThen_ok,MapKept.run_getObj_map q2,Sem.run_pure,run_checkKey_int hkt,MapKept.run_findKey hkt hj]
 rfl
theorem st_look_none (x y:Operand) (t kt et k:Nat) (ei:TI) (kvs:List (Int × Value)) (n:Int) (ht:E.P.underlying t = some (.map kt et)) (hkt:E.P.underlying kt = some (.int .i64)) (he:E.ti et = some ei) (hzo:zeroOf E.P et = .bool false) (hx:g.ev x = .acc k) (hk:g.at k = some (.map kvs)) (hy:g.ev y = .d (.val (.int .i64 n))) (hv:mapGet kvs n = none) :
 StS E.P ⟨some d,.lookup t x y false,ty,pos,aft,gd⟩ g ⟨sls x ++ sls y,[k]⟩ ⟨some (d,.d (.val (.bool false))),[]⟩:=by
 intro g2 hg
 have h1:=hg.ev (x:=x) (fun t h=>by simp [h])
 have h2:=hg.ev (x:=y) (fun t h=>by simp [h])
 have h3:=(hg.p k (by simp)).trans hk
 refine OpT.val rfl fun X ν a w hs=>?_
 have hvx:=hs.ev x
 rw [h1,hx] at hvx
 have hvy:=hs.ev y
 rw [h2,hy] at hvy
 have hvy:=rep_val hvy
 simp only [RepPV] at hvx
 obtain ⟨r,es,clock,q1,q2,q3,q4,q5⟩:=hs.en k _ h3
 have hj:=(findNow_map n es.toList kvs 0 q3).1 hv
 obtain ⟨i,z,z1,z2,z3,z4,z5,z6⟩:=(E.ok et ei he).info
 have hzv:z = .bool false:=by
  rw [← hzo]
  simp [zeroOf,z1,z4]
 refine ⟨.bool false,?_,rep_mk rfl⟩
 simp only [execOp,hvx.2,q1,hvy,Instr.lookup,Sem.run_bind,run_underlying ht,Result.andThen_ok,MapKept.run_getObj_map q2,Sem.run_pure,run_checkKey_int hkt,MapKept.run_findKey hkt hj,zeroValue,typeInfo]
 simp [z1,z4,hzv]
theorem run_put_map {P:Program} {t kt et:TypeId} (ht:P.underlying t = some (.map kt et)) (hkt:P.underlying kt = some (.int .i64)) {w:World} {r:Nat} {es:Array MapEntry} {clock:Nat} (hr:w.heap[r]? = some (.map es clock)) {n:Int} (hf:Instr.findNow (.int .i64) (.int .i64 n) es.toList 0 = some none) (v:Value) :
 (Instr.mapUpdate t (.map (some r)) (.int .i64 n) v).run P w = .ok () { w with heap:=w.heap.setIfInBounds r (.map (es.push ⟨.int .i64 n,v,clock⟩) (clock + 1)) }:=by
 simp only [Instr.mapUpdate,Sem.run_bind,run_underlying ht,Result.andThen_ok,MapKept.run_getObj_map hr,run_checkKey_int hkt,MapKept.run_findKey hkt hf]
 exact MapKept.run_setObj_map _ hr
theorem st_put_map (o:Op) (x y z:Operand) (t kt et k:Nat) (kvs:List (Int × Value)) (n:Int) (v:Value) (ho:o = .mapUpdate t x y z ∨ o = .insert t x y z) (ht:E.P.underlying t = some (.map kt et)) (hkt:E.P.underlying kt = some (.int .i64)) (hx:g.ev x = .acc k) (hk:g.at k = some (.map kvs)) (hy:g.ev y = .d (.val (.int .i64 n))) (hz:g.ev z = pvV v) (hok:okV v = true) (hv:mapGet kvs n = none) :
 StS E.P ⟨none,o,ty,pos,aft,gd⟩ g ⟨sls x ++ sls y ++ sls z,[k]⟩ ⟨none,[(k,.map (kvs ++ [(n,v)]))]⟩:=by
 intro g2 hg
 have e1:=hg.ev (x:=x) (fun t h=>by simp [h])
 have e2:=hg.ev (x:=y) (fun t h=>by simp [h])
 have e3:=hg.ev (x:=z) (fun t h=>by simp [h])
 have h3:=(hg.p k (by simp)).trans hk
 intro X ν a w next Q hs hnx
 have hvx:=hs.ev x
 rw [e1,hx] at hvx
 have hvy:=hs.ev y
 rw [e2,hy] at hvy
 have hvy:=rep_val hvy
 have hvz:=hs.ev z
 rw [e3,hz] at hvz
 have hvz:=pvV_inv hvz
 simp only [RepPV] at hvx
 obtain ⟨r,es,clock,q1,q2,q3,q4,q5⟩:=hs.en k _ h3
 have hj:=(findNow_map n es.toList kvs 0 q3).1 hv
 have hrun:=run_put_map ht hkt q2 hj v
 have hr:(execOp a.eval ⟨none,o,ty,pos,aft,gd⟩).run E.P w = .ok .skip { w with heap:=w.heap.setIfInBounds r (.map (es.push ⟨.int .i64 n,v,clock⟩) (clock + 1)) }:=by
  rcases ho with rfl | rfl <;> simp only [execOp,hvx.2,q1,hvy,hvz,Sem.run_bind,hrun,Result.andThen_ok] <;> rfl
 unfold Oper.wp
 rw [hr,Oper.upon_skip]
 have hrs:r < w.heap.size:=heap_lt q2
 have hchg:Chg (fun b=>(ν k).has b) w { w with heap:=w.heap.setIfInBounds r (.map (es.push ⟨.int .i64 n,v,clock⟩) (clock + 1)) }:=
  ⟨rfl,rfl,rfl,by simp,fun b _ hb=>by
   have hne:r ≠ b:=fun e=>hb (e ▸ (has_nil q5).2 (by rw [q1]; rfl))
   simp [Array.getElem?_setIfInBounds,hne]⟩
 refine hnx _ _ _ (hs.setent k (.map kvs) (.map (kvs ++ [(n,v)])) h3 rfl hchg none .undef Go.undef ?_ (fun h=>by cases h))
 intro hwf hm
 refine ⟨r,_,_,q1,by simp [Array.getElem?_setIfInBounds,hrs]; exact ⟨rfl,rfl⟩,?_,fun p hp=>?_,q5⟩
 ·simp only [mapRows,keyRows,Array.toList_push,List.map_append,List.map_cons,List.map_nil] at q3 ⊢
  rw [q3]
 ·rcases List.mem_append.1 hp with h | h
  ·exact q4 p h
  ·simp only [List.mem_cons,List.not_mem_nil,or_false] at h
   rw [h]; exact hok
end
attribute [go_sem] pvV
end Go.Eng
namespace Go.Eng
open Go.RowKit
theorem run_copy_rows {P:Program} (w:World) (dT sT ty elem:TypeId) (s g o dLen dCap:Nat) (a:Addr) (sLen sCap:Nat) (cur:Array Value) (t:TypeId) (cs:List Value)
 (hu:P.underlying dT = some (.slice elem)) (hs:(P.info? elem).map (·.size) = some s)
 (hg:w.heap[g]? = some (.cells cur t (0,0))) (hn:cs.length = Nat.min sLen dLen * s)
 (hsrc:∀ j v,cs[j]? = some v → w.cell? (a.add j) = some v) (hfit:o + cs.length ≤ cur.size) (h1:∀ v ∈ cs,v.oneCell' = true) :
 (Builtin.copy_ #[dT,sT] ty #[.slice (some ⟨g,o,none⟩) dLen dCap,.slice (some a) sLen sCap]).run P w =
  .ok (goInt (Nat.min sLen dLen)) (w.setRow g (cur.toList.take o ++ cs ++ cur.toList.drop (o + cs.length)).toArray):=by
 have hl:=run_loadCells_list (P:=P) w a cs hsrc
 have hst:=run_storeCells_at P g o t cs 0 cur w hg (by simpa using hfit) h1
 cases hq:P.info? elem with
 | none=>simp [hq] at hs
 | some i=>
   have hi:i.size = s:=by simpa [hq] using hs
   rw [hn] at hl
   simp [Builtin.copy_,run_underlying hu,Builtin.lenOf,Builtin.firstCells,sizeOf,typeInfo,hq,hi,hl,hst]
section
variable {E:Env} {g:G}
theorem st_tail_any (x lo:Operand) (t e k:Nat) {d:Nat} {ty:TypeId} {pos:String} {aft:Array Edge} {gd:Option (Nat × Bool)} (ti ei:TI) (xs:List (List D)) (m:Int) (ht:E.ti t = some ti) (hty:ti.ty = .slice e) (he:E.ti e = some ei)
 (hx:g.ev x = .acc k) (hk:g.at k = some (.acc e xs)) (hlo:g.ev lo = .d (.val (.int .i64 m))) (h0:0 ≤ m) (hm:m ≤ xs.length) :
 StS E.P ⟨some d,.slice t x (some lo) none none,ty,pos,aft,gd⟩ g ⟨sls x ++ sls lo,[k]⟩ ⟨some (d,.any),[]⟩:=by
 intro g2 hg
 have e1:=hg.ev (x:=x) (fun t h=>by simp [h])
 have e2:=hg.ev (x:=lo) (fun t h=>by simp [h])
 have h3:=(hg.p k (by simp)).trans hk
 intro X ν a w next Q hs hn
 have hu:=(E.ok t ti ht).ty
 rw [hty] at hu
 have hv:=hs.ev x
 rw [e1,hx] at hv
 have hv2:=hs.ev lo
 rw [e2,hlo] at hv2
 have hv2:=rep_val hv2
 simp only [RepPV] at hv
 have hsize:=(E.ok e ei he).size
 obtain ⟨us,ho,hrr,hB,hf0⟩:=hs.en k _ h3
 have hrun:∃ v,(execOp a.eval ⟨some d,.slice t x (some lo) none none,ty,pos,aft,gd⟩).run E.P w = .ok (.value v) w:=by
  rcases ho.2 with ⟨h1,h2⟩ | ⟨b,cap,cur,h1,_,_,h4,_⟩
  ·have hr:=run_cut (P:=E.P) w hu hsize none 0 0 (some (.int .i64 m)) none m ((0:Nat):Int) (.inr ⟨_,rfl⟩) (.inl ⟨rfl,rfl⟩) h0 (by omega) (Int.le_refl _) (Nat.le_refl _)
   refine ⟨sliced none m.toNat 0 0 ei.n,?_⟩
   simp only [execOp,hv.2,h1,hv2,Option.map_none,Option.map_some,Sem.run_bind,hr,Result.andThen_ok]
   rfl
  ·have hr:=run_cut (P:=E.P) w hu hsize (some ⟨b,0,none⟩) xs.length cap (some (.int .i64 m)) none m (xs.length:Int) (.inr ⟨_,rfl⟩) (.inl ⟨rfl,rfl⟩) h0 (by omega) (Int.le_refl _) h4
   simp only [Int.toNat_natCast] at hr
   refine ⟨sliced (some ⟨b,0,none⟩) m.toNat xs.length cap ei.n,?_⟩
   simp only [execOp,hv.2,h1,hv2,Option.map_none,Option.map_some,Sem.run_bind,hr,Result.andThen_ok]
   rfl
 obtain ⟨v,hr⟩:=hrun
 unfold Oper.wp
 rw [hr,Oper.upon_value]
 exact hn _ _ _ (hs.put d (p:=.any) (v:=v) trivial)
end
end Go.Eng
namespace Go.Eng
theorem shift_rows {α:Type} (A B R v:List α) (hs:v.length ≤ R.length) :
 (((A ++ B ++ R).take (A.length + v.length) ++ B ++ (A ++ B ++ R).drop (A.length + v.length + B.length)).take A.length ++ v
   ++ ((A ++ B ++ R).take (A.length + v.length) ++ B ++ (A ++ B ++ R).drop (A.length + v.length + B.length)).drop (A.length + v.length))
 = A ++ v ++ B ++ R.drop v.length:=by
 have hl:((A ++ B ++ R).take (A.length + v.length)).length = A.length + v.length:=by simp; omega
 have h1:(((A ++ B ++ R).take (A.length + v.length)) ++ B ++ (A ++ B ++ R).drop (A.length + v.length + B.length)).take A.length = A:=by
  rw [List.append_assoc,List.take_append_of_le_length (by omega),List.take_take,Nat.min_eq_left (by omega),List.append_assoc,List.take_left]
 have h2:(((A ++ B ++ R).take (A.length + v.length)) ++ B ++ (A ++ B ++ R).drop (A.length + v.length + B.length)).drop (A.length + v.length) = B ++ R.drop v.length:=by
  rw [List.append_assoc,List.drop_left' hl,show A.length + v.length + B.length = (A ++ B).length + v.length from by simp; omega,List.drop_append]
  simp
 rw [h1,h2]
 simp
end Go.Eng
