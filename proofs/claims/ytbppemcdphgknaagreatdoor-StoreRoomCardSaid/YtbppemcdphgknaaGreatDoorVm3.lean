/- A part of the proofs over the seat YtbppemcdphgknaaGreatDoor. -/
import Derived.Test.YtbppemcdphgknaaGreatDoorVm2
set_option linter.unusedVariables false
set_option linter.unusedSimpArgs false
namespace Go.Vm
open Go
variable {A:Type} {R:Rep A} {E:Env} {st:St A} {ρ:Rho} {M:Mem} {S:Name→List Nat} {a:Act} {w:World}
def St.put (st:St A) (d:Option Tmp) (v:V):St A:=match d with
 | some d=>{st with tmps:=lset st.tmps d v}
 | none=>st
def St.setOb (st:St A) (n:Name) (o:Option (Ob A)):St A:=match n.1 with
 | 0=>{st with arena:=lset st.arena n.2 o}
 | s+1=>{st with objs:=lset st.objs s (n.2,o)}
theorem VsRel.set {ρ:Rho} {M:Mem} {l:List V} {l':List Value} (h:VsRel ρ M l l') (d:Nat) {v:V} {v':Value} (hv:VRel ρ M v v'):VsRel ρ M (l.set d v) (l'.set d v'):=by
 refine⟨by simp[h.1],fun i x x' hx hx'=>?_⟩
 rw[List.getElem?_set] at hx hx'
 by_cases hd:d=i
 ·subst hd
  rw[if_pos rfl] at hx hx'
  split at hx<;>simp_all
 ·rw[if_neg hd] at hx hx'
  exact h.2 i x x' hx hx'
theorem Rel.put (h:Rel R E st ρ M S a w) (d:Option Tmp) {v:V} {v':Value} (hv:VRel ρ M v v'):Rel R E (st.put d v) ρ M S (a.put d v') w:=by
 cases d with
 | none=>exact h
 | some d=>
  exact {h with
   defers:=h.defers
   tmps:=by
    show VsRel ρ M (lset st.tmps d v) (a.tmps.setIfInBounds d v').toList
    rw[lset_eq,Array.toList_setIfInBounds]
    exact h.tmps.set d hv
   objs:=h.objs
   disj:=h.disj
   blt:=h.blt
   own:=h.own
   fresh:=h.fresh}
theorem cell?_of_heap {w w':World} {b:Nat} (h:w'.heap[b]?=w.heap[b]?) (o:Nat):w'.cell? ⟨b,o,none⟩=w.cell? ⟨b,o,none⟩:=by
 simp only[World.cell?,h]
theorem PRow.mem_S {xs:List A} {b o c:Nat} {T:TypeId} {cs':List Value} {bs:Nat→Nat} {Ss:Nat→List Nat} {S:List Nat} (h:PRow R M w xs b o c T cs' bs Ss S):b∈S∧∀j,j<xs.length→∀k∈Ss j,k∈S:=by
 rw[h.all]
 exact⟨List.mem_cons_self,fun j hj k hk=>List.mem_cons_of_mem _ (List.mem_flatten.2 ⟨Ss j,List.mem_map.2 ⟨j,List.mem_range.2 hj,rfl⟩,hk⟩)⟩
theorem PRow.frame {xs:List A} {b o c:Nat} {T:TypeId} {cs':List Value} {bs:Nat→Nat} {Ss:Nat→List Nat} {S:List Nat} {M':Mem} {w':World} (h:PRow R M w xs b o c T cs' bs Ss S) (hm:M.le M')
  (hM:∀b∈S,∀o,M' b o=M b o) (hh:∀b∈S,w'.heap[b]?=w.heap[b]?):PRow R M' w' xs b o c T cs' bs Ss S:=by
 obtain⟨m1,m2⟩:=h.mem_S
 exact {h with
  heap:=(hh b m1).trans h.heap
  mem:=fun j hj=>hm _ _ _ (h.mem j hj)
  top:=fun j hj=>h.top j (by rw[←hM b m1 j];exact hj)
  rep:=fun j x hx=>by
   have hj:=(List.getElem?_eq_some_iff.1 hx).1
   exact R.frame (h.rep j x hx) hm (fun k hk=>hM k (m2 j hj k hk)) fun k hk=>hh k (m2 j hj k hk)}
theorem ObRel.of_heap {n:Name} {T:List Nat} {ob:Ob A} {ρ':Rho} {M':Mem} {w':World} (h:ObRel R ρ M w n T ob) (hn:ρ' n=ρ n) (hr:ρ.le ρ') (hm:M.le M')
  (hM:∀b∈T,∀o,M' b o=M b o) (hh:∀b∈T,w'.heap[b]?=w.heap[b]?):ObRel R ρ' M' w' n T ob:=by
 cases ob with
 | box cs=>
  obtain⟨b,ty,cs',rfl,h1,h2,h3,h4⟩:=h
  exact⟨b,ty,cs',rfl,hn.trans h1,(hh b (by simp)).trans h2,h3.mono hr hm,fun o=>(hM b (by simp) o).trans (h4 o)⟩
 | row sz es fz=>
  rcases h with⟨b,o,c,ty,cs',rfl,h1,h2,h3,h4,h5,h6,h7⟩|⟨rfl,rfl,b,o,h1⟩
  case inr=>exact .inr ⟨rfl,rfl,b,o,hn.trans h1⟩
  refine .inl ⟨b,o,c,ty,cs',rfl,hn.trans h1,(hh b (by simp)).trans h2,h3,h4,h5,fun i k e v he hv=>?_,fun j hj=>?_⟩
  ·obtain⟨v',e1,e2⟩:=h6 i k e v he hv;exact⟨v',e1,e2.mono hr hm⟩
  ·exact h7 j (by rw[←hM b (by simp) j];exact hj)
 | abs x=>
  obtain⟨b,h1,h2⟩:=h
  exact⟨b,hn.trans h1,R.frame h2 hm hM hh⟩
 | prow xs=>
  rcases h with⟨b,o,c,ty,cs',bs,Ss,h1,h2⟩|⟨e1,e2,b,o,h1⟩
  ·exact .inl ⟨b,o,c,ty,cs',bs,Ss,hn.trans h1,h2.frame hm hM hh⟩
  ·exact .inr ⟨e1,e2,b,o,hn.trans h1⟩
theorem Rel.world {w':World} (h:Rel R E st ρ M S a w) (hh:w'.heap=w.heap) (ho:w'.os=w.os) (ht:w'.tape=w.tape) (hu:w'.output=w.output):Rel R E st ρ M S a w' where
 defers:=h.defers
 tmps:=h.tmps
 mem:=fun b o v hv=>(cell?_of_heap (by rw[hh]) o).trans (h.mem b o v hv)
 objs:=fun n ob hn=>(h.objs n ob hn).of_heap rfl (Rho.le_refl _) (Mem.le_refl _) (fun _ _ _=>rfl) (fun b _=>by rw[hh])
 disj:=h.disj
 blt:=fun n ob hn b hb=>by rw[hh];exact h.blt n ob hn b hb
 own:=h.own
 fresh:=h.fresh
 hsize:=by rw[hh];exact h.hsize
 keep:=fun b hb hb'=>by rw[hh];exact h.keep b hb hb'
 os:=ho.trans h.os
 tape:=ht.trans h.tape
 output:=hu.trans h.output
 M0:=h.M0
 Mnew:=h.Mnew
 ρ0:=h.ρ0
theorem St.get_setOb_slot {s g:Nat} {o:Option (Ob A)} {g₀:Nat} {o₀:Option (Ob A)} (hs:st.objs[s]?=some (g₀,o₀)) (n:Name) :
  (st.setOb (s+1,g) o).get n=if n.1=s+1 then(if n.2=g then o else none) else st.get n:=by
 obtain⟨n1,n2⟩:=n
 have hlt:s<st.objs.length:=(List.getElem?_eq_some_iff.1 hs).1
 cases n1 with
 | zero=>simp[St.get,St.setOb]
 | succ m=>
  simp only[St.get,St.setOb,lset_eq,List.getElem?_set]
  by_cases h:s=m
  ·subst h;simp[hlt]
  ·have h':¬m=s:=fun e=>h e.symm
   simp[h,h']
theorem St.get_slot_gen {s g:Nat} {ob:Ob A} (h:st.get (s+1,g)=some ob):st.objs[s]?=some (g,some ob):=by
 simp only[St.get] at h
 split at h
 ·rename_i g' o hs
  split at h
  ·subst_vars;exact hs
  ·cases h
 ·cases h
theorem St.get_setOb_live {n:Name} {ob:Ob A} (hn:st.get n=some ob) (o:Option (Ob A)) {n':Name} {ob':Ob A} (h:(st.setOb n o).get n'=some ob'):(n'=n∧o=some ob')∨(n'≠n∧st.get n'=some ob'):=by
 obtain⟨n1,g⟩:=n
 cases n1 with
 | zero=>
  obtain⟨m1,m2⟩:=n'
  cases m1 with
  | zero=>
   have hlt:g<st.arena.length:=by
    simp only[St.get] at hn
    split at hn
    ·rename_i x hx;exact(List.getElem?_eq_some_iff.1 hx).1
    ·cases hn
   simp only[St.get,St.setOb,lset_eq,List.getElem?_set] at h
   by_cases e:g=m2
   ·subst e
    rw[if_pos rfl,if_pos hlt] at h
    exact .inl ⟨rfl,h⟩
   ·rw[if_neg e] at h
    exact .inr ⟨fun e'=>e (by cases e';rfl),h⟩
  | succ m=>exact .inr ⟨(fun e=>by cases e),h⟩
 | succ s=>
  have hs:=St.get_slot_gen hn
  rw[St.get_setOb_slot hs] at h
  by_cases h1:n'.1=s+1
  ·rw[if_pos h1] at h
   by_cases h2:n'.2=g
   ·rw[if_pos h2] at h;exact .inl ⟨Prod.ext h1 h2,h⟩
   ·rw[if_neg h2] at h;cases h
  ·rw[if_neg h1] at h
   exact .inr ⟨fun e=>h1 (by rw[e]),h⟩
theorem St.fresh_setOb {n:Name} {ob:Ob A} (hn:st.get n=some ob) (o:Option (Ob A)) {ρ:Rho} (h:∀n g,(∀p,st.objs[n]?=some p→p.1<g)→ρ (n+1,g)=none) :
  ∀m g,(∀p,(st.setOb n o).objs[m]?=some p→p.1<g)→ρ (m+1,g)=none:=by
 intro m g' hg
 refine h m g' (fun p hp=>?_)
 obtain⟨n1,g⟩:=n
 cases n1 with
 | zero=>exact hg p hp
 | succ s=>
  have hs:=St.get_slot_gen hn
  by_cases e:m=s
  ·subst e
   rw[hs] at hp;cases hp
   refine hg (g,o) ?_
   simp only[St.setOb,lset_eq]
   rw[List.getElem?_set_self (List.getElem?_eq_some_iff.1 hs).1]
  ·refine hg p ?_
   simp only[St.setOb,lset_eq]
   rw[List.getElem?_set_ne (Ne.symm e)];exact hp
theorem St.tmps_setOb (n:Name) (o:Option (Ob A)):(st.setOb n o).tmps=st.tmps:=by
 obtain⟨n1,g⟩:=n
 cases n1<;>rfl
theorem Rel.kill (h:Rel R E st ρ M S a w) {n:Name} {ob:Ob A} (hn:st.get n=some ob):Rel R E (st.setOb n none) ρ M S a w:=by
 have key:∀n' ob',(st.setOb n none).get n'=some ob'→st.get n'=some ob':=by
  intro n' ob' h'
  rcases St.get_setOb_live hn none h' with⟨_,h2⟩|⟨_,h2⟩
  ·cases h2
  ·exact h2
 exact {h with
  defers:=h.defers
  tmps:=by rw[St.tmps_setOb];exact h.tmps
  objs:=fun n ob hn=>h.objs n ob (key n ob hn)
  disj:=fun n n' ob ob' hn hn'=>h.disj n n' ob ob' (key n ob hn) (key n' ob' hn')
  blt:=fun n ob hn=>h.blt n ob (key n ob hn)
  own:=fun n ob hn=>h.own n ob (key n ob hn)
  fresh:=St.fresh_setOb hn none h.fresh}
theorem Rel.new {w':World} {M':Mem} (h:Rel R E st ρ M S a w) {s g:Nat} {o₀:Option (Ob A)} (hs:st.objs[s]?=some (g,o₀)) {ob:Ob A} {T:List Nat} {x:Nat×Nat×Nat}
  (hob:ObRel R (fun n=>if n=(s+1,g+1) then some x else ρ n) M' w' (s+1,g+1) T ob)
  (hT:∀b∈T,b<w'.heap.size∧(b∈E.S0∨E.w0.heap.size≤b)∧∀n ob,st.get n=some ob→n.1≠s+1→b∉S n)
  (hmm:M.le M') (hMn:∀b o v,M' b o=some v→M b o=some v∨E.w0.heap.size≤b)
  (hMo:∀n ob,st.get n=some ob→n.1≠s+1→∀b∈S n,∀o,M' b o=M b o)
  (hmem:∀b o v,M' b o=some v→w'.cell? ⟨b,o,none⟩=some v)
  (hkeep:∀n ob,st.get n=some ob→n.1≠s+1→∀b∈S n,w'.heap[b]?=w.heap[b]?)
  (hold:∀b,b<E.w0.heap.size→b∉E.S0→w'.heap[b]?=w.heap[b]?)
  (hsz:w.heap.size≤w'.heap.size) (ho:w'.os=w.os) (ht:w'.tape=w.tape) (hu:w'.output=w.output) :
  Rel R E (st.setOb (s+1,g+1) (some ob)) (fun n=>if n=(s+1,g+1) then some x else ρ n) M' (fun n=>if n=(s+1,g+1) then T else S n) a w':=by
 have hfr:ρ (s+1,g+1)=none:=h.fresh s (g+1) (fun p hp=>by rw[hs] at hp;cases hp;simp)
 have hle:ρ.le (fun n=>if n=(s+1,g+1) then some x else ρ n):=by
  intro n y hy
  by_cases e:n=(s+1,g+1)
  ·rw[e,hfr] at hy;cases hy
  ·simp[e,hy]
 have key:∀n' ob',(st.setOb (s+1,g+1) (some ob)).get n'=some ob'→(n'=(s+1,g+1)∧ob'=ob)∨(n'≠(s+1,g+1)∧n'.1≠s+1∧st.get n'=some ob'):=by
  intro n' ob' h'
  rw[St.get_setOb_slot hs] at h'
  by_cases h1:n'.1=s+1
  ·rw[if_pos h1] at h'
   by_cases h2:n'.2=g+1
   ·rw[if_pos h2] at h';cases h'
    exact .inl ⟨Prod.ext h1 h2,rfl⟩
   ·rw[if_neg h2] at h';cases h'
  ·rw[if_neg h1] at h'
   exact .inr ⟨fun e=>h1 (by rw[e]),h1,h'⟩
 exact {
  defers:=h.defers
  tmps:=h.tmps.mono hle hmm
  mem:=hmem
  objs:=fun n ob' hn=>by
   rcases key n ob' hn with⟨rfl,rfl⟩|⟨h1,h2,h3⟩
   ·simpa using hob
   ·have:=(h.objs n ob' h3).of_heap (ρ':=fun n=>if n=(s+1,g+1) then some x else ρ n) (M':=M') (w':=w') (by simp[h1]) hle hmm (hMo n ob' h3 h2) (hkeep n ob' h3 h2)
    simpa[h1] using this
  disj:=fun n n' ob1 ob2 hn hn' hne b hb=>by
   rcases key n ob1 hn with⟨rfl,rfl⟩|⟨h1,h2,h3⟩<;>rcases key n' ob2 hn' with⟨rfl,rfl⟩|⟨k1,k2,k3⟩
   ·exact absurd rfl hne
   ·simp only[if_true,if_neg k1] at hb ⊢
    exact(hT b hb).2.2 n' ob2 k3 k2
   ·simp only[if_true,if_neg h1] at hb ⊢
    exact fun hb'=>(hT b hb').2.2 n ob1 h3 h2 hb
   ·simp only[if_neg h1,if_neg k1] at hb ⊢
    exact h.disj n n' ob1 ob2 h3 k3 hne b hb
  blt:=fun n ob' hn b hb=>by
   rcases key n ob' hn with⟨rfl,rfl⟩|⟨h1,h2,h3⟩
   ·simp only[if_true] at hb;exact(hT b hb).1
   ·simp only[if_neg h1] at hb;exact Nat.lt_of_lt_of_le (h.blt n ob' h3 b hb) hsz
  own:=fun n ob' hn b hb=>by
   rcases key n ob' hn with⟨rfl,rfl⟩|⟨h1,h2,h3⟩
   ·simp only[if_true] at hb;exact(hT b hb).2.1
   ·simp only[if_neg h1] at hb;exact h.own n ob' h3 b hb
  fresh:=fun n g' hg=>by
   have hlt:s<st.objs.length:=(List.getElem?_eq_some_iff.1 hs).1
   by_cases e:n=s
   ·subst e
    have:=hg (g+1,some ob) (by simp only[St.setOb,lset_eq];rw[List.getElem?_set_self hlt])
    have hne:¬(n+1,g')=(n+1,g+1):=by intro e;simp at e;omega
    simp only[if_neg hne]
    exact h.fresh n g' (fun p hp=>by rw[hs] at hp;cases hp;simp at this ⊢;omega)
   ·have hne:¬(n+1,g')=(s+1,g+1):=by intro e';simp at e';omega
    simp only[if_neg hne]
    refine h.fresh n g' (fun p hp=>hg p ?_)
    simp only[St.setOb,lset_eq]
    rw[List.getElem?_set_ne (Ne.symm e)];exact hp
  hsize:=Nat.le_trans h.hsize hsz
  keep:=fun b hb hb'=>(hold b hb hb').trans (h.keep b hb hb')
  os:=ho.trans h.os
  tape:=ht.trans h.tape
  output:=hu.trans h.output
  M0:=Mem.le_trans h.M0 hmm
  Mnew:=fun b o v hv=>by
   rcases hMn b o v hv with h'|h'
   ·exact h.Mnew b o v h'
   ·exact .inr (.inl h')
  ρ0:=fun k y hy=>hle _ _ (h.ρ0 k y hy)}
theorem Rel.upd {w':World} (h:Rel R E st ρ M S a w) {n:Name} {ob ob':Ob A} (hn:st.get n=some ob) (hob:ObRel R ρ M w' n (S n) ob')
  (hM:∀b∈S n,∀o,M b o=none) (hh:∀b,b∉S n→w'.heap[b]?=w.heap[b]?) (hsz:w'.heap.size=w.heap.size) (ho:w'.os=w.os) (ht:w'.tape=w.tape) (hu:w'.output=w.output) :
  Rel R E (st.setOb n (some ob')) ρ M S a w':=by
 have key:∀n' ob1,(st.setOb n (some ob')).get n'=some ob1→(n'=n∧ob1=ob')∨(n'≠n∧st.get n'=some ob1):=by
  intro n' ob1 h'
  rcases St.get_setOb_live hn _ h' with⟨h1,h2⟩|h2
  ·exact .inl ⟨h1,by cases h2;rfl⟩
  ·exact .inr h2
 have hlive:∀n' ob1,(st.setOb n (some ob')).get n'=some ob1→∃ob2,st.get n'=some ob2:=by
  intro n' ob1 h'
  rcases key n' ob1 h' with⟨rfl,_⟩|⟨_,h2⟩
  ·exact⟨ob,hn⟩
  ·exact⟨ob1,h2⟩
 exact {
  defers:=h.defers
  tmps:=by rw[St.tmps_setOb];exact h.tmps
  mem:=fun b o v hv=>by
   have hb:b∉S n:=fun hb=>by rw[hM b hb o] at hv;cases hv
   rw[cell?_of_heap (hh b hb)];exact h.mem b o v hv
  objs:=fun n' ob1 hn'=>by
   rcases key n' ob1 hn' with⟨rfl,rfl⟩|⟨h1,h2⟩
   ·exact hob
   ·exact(h.objs n' ob1 h2).of_heap rfl (Rho.le_refl _) (Mem.le_refl _) (fun _ _ _=>rfl) (fun b hb=>hh b (h.disj n' n ob1 ob h2 hn h1 b hb))
  disj:=fun n1 n2 o1 o2 h1 h2 hne=>by
   obtain⟨_,e1⟩:=hlive _ _ h1
   obtain⟨_,e2⟩:=hlive _ _ h2
   exact h.disj _ _ _ _ e1 e2 hne
  blt:=fun n1 o1 h1 b hb=>by
   obtain⟨_,e1⟩:=hlive _ _ h1
   rw[hsz];exact h.blt _ _ e1 b hb
  own:=fun n1 o1 h1=>by
   obtain⟨_,e1⟩:=hlive _ _ h1
   exact h.own _ _ e1
  fresh:=St.fresh_setOb hn _ h.fresh
  hsize:=by rw[hsz];exact h.hsize
  keep:=fun b hb hb'=>by
   have:b∉S n:=fun hm=>by
    rcases h.own n ob hn b hm with h'|h'
    ·exact hb' h'
    ·omega
   exact(hh b this).trans (h.keep b hb hb')
  os:=ho.trans h.os
  tape:=ht.trans h.tape
  output:=hu.trans h.output
  M0:=h.M0
  Mnew:=h.Mnew
  ρ0:=h.ρ0}
theorem Rel.updC {w':World} (h:Rel R E st ρ M S a w) {n:Name} {ob ob':Ob A} (hn:st.get n=some ob) {Ch:List Nat} (hC:∀b∈Ch,b∈S n) (hob:ObRel R ρ M w' n (S n) ob')
  (hM:∀b∈Ch,∀o,M b o=none) (hh:∀b,b∉Ch→w'.heap[b]?=w.heap[b]?) (hsz:w'.heap.size=w.heap.size) (ho:w'.os=w.os) (ht:w'.tape=w.tape) (hu:w'.output=w.output) :
  Rel R E (st.setOb n (some ob')) ρ M S a w':=by
 have key:∀n' ob1,(st.setOb n (some ob')).get n'=some ob1→(n'=n∧ob1=ob')∨(n'≠n∧st.get n'=some ob1):=by
  intro n' ob1 h'
  rcases St.get_setOb_live hn _ h' with⟨h1,h2⟩|h2
  ·exact .inl ⟨h1,by cases h2;rfl⟩
  ·exact .inr h2
 have hlive:∀n' ob1,(st.setOb n (some ob')).get n'=some ob1→∃ob2,st.get n'=some ob2:=by
  intro n' ob1 h'
  rcases key n' ob1 h' with⟨rfl,_⟩|⟨_,h2⟩
  ·exact⟨ob,hn⟩
  ·exact⟨ob1,h2⟩
 exact {
  defers:=h.defers
  tmps:=by rw[St.tmps_setOb];exact h.tmps
  mem:=fun b o v hv=>by
   have hb:b∉Ch:=fun hb=>by rw[hM b hb o] at hv;cases hv
   rw[cell?_of_heap (hh b hb)];exact h.mem b o v hv
  objs:=fun n' ob1 hn'=>by
   rcases key n' ob1 hn' with⟨rfl,rfl⟩|⟨h1,h2⟩
   ·exact hob
   ·exact(h.objs n' ob1 h2).of_heap rfl (Rho.le_refl _) (Mem.le_refl _) (fun _ _ _=>rfl) (fun b hb=>hh b fun hc=>h.disj n' n ob1 ob h2 hn h1 b hb (hC b hc))
  disj:=fun n1 n2 o1 o2 h1 h2 hne=>by
   obtain⟨_,e1⟩:=hlive _ _ h1
   obtain⟨_,e2⟩:=hlive _ _ h2
   exact h.disj _ _ _ _ e1 e2 hne
  blt:=fun n1 o1 h1 b hb=>by
   obtain⟨_,e1⟩:=hlive _ _ h1
   rw[hsz];exact h.blt _ _ e1 b hb
  own:=fun n1 o1 h1=>by
   obtain⟨_,e1⟩:=hlive _ _ h1
   exact h.own _ _ e1
  fresh:=St.fresh_setOb hn _ h.fresh
  hsize:=by rw[hsz];exact h.hsize
  keep:=fun b hb hb'=>by
   have:b∉Ch:=fun hm=>by
    rcases h.own n ob hn b (hC b hm) with h'|h'
    ·exact hb' h'
    ·omega
   exact(hh b this).trans (h.keep b hb hb')
  os:=ho.trans h.os
  tape:=ht.trans h.tape
  output:=hu.trans h.output
  M0:=h.M0
  Mnew:=h.Mnew
  ρ0:=h.ρ0}
theorem Rel.reob (h:Rel R E st ρ M S a w) {n:Name} {ob ob':Ob A} (hn:st.get n=some ob) {T:List Nat} (hob:ObRel R ρ M w n T ob')
  (hT:∀b∈T,b<w.heap.size∧(b∈E.S0∨E.w0.heap.size≤b)∧∀n' ob1,st.get n'=some ob1→n'≠n→b∉S n') :
  Rel R E (st.setOb n (some ob')) ρ M (fun k=>if k=n then T else S k) a w:=by
 have key:∀n' ob1,(st.setOb n (some ob')).get n'=some ob1→(n'=n∧ob1=ob')∨(n'≠n∧st.get n'=some ob1):=by
  intro n' ob1 h'
  rcases St.get_setOb_live hn _ h' with⟨h1,h2⟩|h2
  ·exact .inl ⟨h1,by cases h2;rfl⟩
  ·exact .inr h2
 exact {
  defers:=h.defers
  tmps:=by rw[St.tmps_setOb];exact h.tmps
  mem:=h.mem
  objs:=fun n' ob1 hn'=>by
   rcases key n' ob1 hn' with⟨rfl,rfl⟩|⟨h1,h2⟩
   ·simpa using hob
   ·simp only[if_neg h1];exact h.objs n' ob1 h2
  disj:=fun n1 n2 o1 o2 h1 h2 hne b hb=>by
   rcases key n1 o1 h1 with⟨rfl,rfl⟩|⟨k1,k2⟩<;>rcases key n2 o2 h2 with⟨rfl,rfl⟩|⟨l1,l2⟩
   ·exact absurd rfl hne
   ·simp only[if_true,if_neg l1] at hb ⊢;exact(hT b hb).2.2 n2 o2 l2 l1
   ·simp only[if_true,if_neg k1] at hb ⊢;exact fun hb'=>(hT b hb').2.2 n1 o1 k2 k1 hb
   ·simp only[if_neg k1,if_neg l1] at hb ⊢;exact h.disj _ _ _ _ k2 l2 hne b hb
  blt:=fun n1 o1 h1 b hb=>by
   rcases key n1 o1 h1 with⟨rfl,rfl⟩|⟨k1,k2⟩
   ·simp only[if_true] at hb;exact(hT b hb).1
   ·simp only[if_neg k1] at hb;exact h.blt _ _ k2 b hb
  own:=fun n1 o1 h1 b hb=>by
   rcases key n1 o1 h1 with⟨rfl,rfl⟩|⟨k1,k2⟩
   ·simp only[if_true] at hb;exact(hT b hb).2.1
   ·simp only[if_neg k1] at hb;exact h.own _ _ k2 b hb
  fresh:=St.fresh_setOb hn _ h.fresh
  hsize:=h.hsize
  keep:=h.keep
  os:=h.os
  tape:=h.tape
  output:=h.output
  M0:=h.M0
  Mnew:=h.Mnew
  ρ0:=h.ρ0}
noncomputable def Env.now (st:St A) (ρ:Rho) (M:Mem) (S:Name→List Nat) (w:World):Env:=
 {w0:=w,M0:=M,ρ0:=ρ,S0:=(List.range w.heap.size).filter fun b=>@decide (∃n ob,st.get n=some ob∧b∈S n) (Classical.propDecidable _)}
theorem Rel.now_S0 (h:Rel R E st ρ M S a w) {b:Nat}:b∈(Env.now st ρ M S w).S0↔∃n ob,st.get n=some ob∧b∈S n:=by
 simp only[Env.now,List.mem_filter,List.mem_range,decide_eq_true_eq]
 exact⟨fun h=>h.2,fun⟨n,ob,h1,h2⟩=>⟨h.blt n ob h1 b h2,n,ob,h1,h2⟩⟩
theorem Rel.now (h:Rel R E st ρ M S a w):Rel R (Env.now st ρ M S w) st ρ M S a w:=
 {h with
  own:=fun n ob hn _ hb=>.inl (h.now_S0.2 ⟨n,ob,hn,hb⟩)
  hsize:=Nat.le_refl _
  keep:=fun _ _ _=>rfl
  os:=rfl
  tape:=rfl
  output:=rfl
  M0:=Mem.le_refl _
  Mnew:=fun _ _ _ h=>.inl h
  ρ0:=fun _ _ h=>h}
theorem Rel.back {st':St A} {ρ':Rho} {M':Mem} {S':Name→List Nat} {a':Act} {w':World} (h:Rel R E st ρ M S a w) (h':Rel R (Env.now st ρ M S w) st' ρ' M' S' a' w'):Rel R E st' ρ' M' S' a' w':=by
 have hS:∀b,b∈(Env.now st ρ M S w).S0→b∈E.S0∨E.w0.heap.size≤b:=fun b hb=>by
  obtain⟨n,ob,h1,h2⟩:=h.now_S0.1 hb
  exact h.own n ob h1 b h2
 have hsz:w.heap.size≤w'.heap.size:=h'.hsize
 exact {h' with
  own:=fun n ob hn b hb=>by
   rcases h'.own n ob hn b hb with h1|h1
   ·exact hS b h1
   ·exact .inr (Nat.le_trans h.hsize h1)
  hsize:=Nat.le_trans h.hsize hsz
  keep:=fun b hb hb'=>by
   refine(h'.keep b (Nat.lt_of_lt_of_le hb h.hsize) fun hc=>?_).trans (h.keep b hb hb')
   rcases hS b hc with h1|h1
   ·exact hb' h1
   ·omega
  os:=h'.os.trans h.os
  tape:=h'.tape.trans h.tape
  output:=h'.output.trans h.output
  M0:=Mem.le_trans h.M0 h'.M0
  Mnew:=fun b o v hv=>by
   rcases h'.Mnew b o v hv with h1|h1|h1
   ·exact h.Mnew b o v h1
   ·exact .inr (.inl (Nat.le_trans h.hsize h1))
   ·rcases hS b h1 with h2|h2
    ·exact .inr (.inr h2)
    ·exact .inr (.inl h2)
  ρ0:=fun k x hx=>h'.ρ0 k x (h.ρ0 k x hx)}
theorem St.get_setOb_ne {n n':Name} {ob ob':Ob A} (hn:st.get n=some ob) (h':st.get n'=some ob') (hne:n'≠n) (o:Option (Ob A)):(st.setOb n o).get n'=some ob':=by
 obtain⟨n1,g⟩:=n
 cases n1 with
 | zero=>
  obtain⟨m1,m2⟩:=n'
  cases m1 with
  | zero=>
   have hne':¬g=m2:=fun e=>hne (by rw[e])
   simp only[St.get,St.setOb,lset_eq] at h' ⊢
   rw[List.getElem?_set_ne hne'];exact h'
  | succ m=>exact h'
 | succ s=>
  have hs:=St.get_slot_gen hn
  rw[St.get_setOb_slot hs]
  by_cases h1:n'.1=s+1
  ·exfalso
   obtain⟨m1,m2⟩:=n'
   simp only at h1;subst h1
   have h2:=St.get_slot_gen h'
   rw[hs] at h2;cases h2
   exact hne rfl
  ·rw[if_neg h1];exact h'
theorem St.get_setOb_self {n:Name} {ob:Ob A} (hn:st.get n=some ob) (o:Ob A):(st.setOb n (some o)).get n=some o:=by
 obtain⟨n1,g⟩:=n
 cases n1 with
 | zero=>
  have hlt:g<st.arena.length:=by
   simp only[St.get] at hn
   split at hn
   ·rename_i x hx;exact(List.getElem?_eq_some_iff.1 hx).1
   ·cases hn
  simp[St.get,St.setOb,lset_eq,hlt]
 | succ s=>
  rw[St.get_setOb_slot (St.get_slot_gen hn)];simp
theorem St.get_setOb_other {n k:Name} {ob:Ob A} (hn:st.get n=some ob) (o:Option (Ob A)) (hk:k≠n):(st.setOb n o).get k=st.get k:=by
 cases h:st.get k with
 | some ob'=>exact St.get_setOb_ne hn h hk o
 | none=>
  cases h':(st.setOb n o).get k with
  | none=>rfl
  | some ob'=>
   rcases St.get_setOb_live hn o h' with⟨e,_⟩|⟨_,e⟩
   ·exact absurd e hk
   ·rw[h] at e;cases e
end Go.Vm
