/- A part of the proofs over the seat YtbppemcdphgknaaGreatDoor. -/
import Derived.Test.YtbppemcdphgknaaGreatDoorVm13a
set_option linter.unusedVariables false
set_option linter.unusedSimpArgs false
namespace Go.Vm
open Go
set_option linter.unusedSimpArgs false
section
variable {ρ ρ':Rho} {M:Mem}
theorem PureV.any {v:V} (h:PureV v) {v':Value} (hv:VRel ρ M v v'):VRel ρ' M v v':=
 (h ρ M v' hv).mono (fun _ _ e=>by cases e) (Mem.le_refl _)
def renC1 (φ:Name→Name):V→V
 | .ref n o=>.ref (φ n) o
 | .rpt n z i k=>.rpt (φ n) z i k
 | .rsl n z i l=>.rsl (φ n) z i l
 | .asl n z o l c=>.asl (φ n) z o l c
 | .sub n j o=>.sub (φ n) j o
 | v=>v
theorem renC1_up {m:Nat} {φ:Name→Name} {ρ2:Rho} (h2:∀n,okN m n→ρ2 (φ n)=ρ n) {v:V} {v':Value} (hv:VRel ρ M v v') (hk:okC m v):VRel ρ2 M (renC1 φ v) v':=by
 cases hv with
 | ref e=>exact .ref ((h2 _ hk).trans e)
 | rpt e=>exact .rpt ((h2 _ hk).trans e)
 | rsl e a b=>exact .rsl ((h2 _ hk).trans e) a b
 | asl e a=>exact .asl ((h2 _ hk).trans e) a
 | rsl0=>exact .rsl0
 | asl0=>exact .asl0
 | undef=>exact .undef _
 | int=>exact .int _ _
 | bool=>exact .bool _
 | nilp=>exact .nilp
 | nils=>exact .nils
 | lst0=>exact .lst0
 | fn f=>exact .fn f
 | lst vals a b c d=>exact(PureV.lst hk).any (.lst vals a b c d)
 | lpt vals a b c=>exact(PureV.lpt hk).any (.lpt vals a b c)
 | sub e e2=>exact .sub ((h2 _ hk).trans e) e2
 | agg=>exact hk.elim
 | tup=>exact hk.elim
theorem renC1_down {m:Nat} {φ:Name→Name} {ρ2:Rho} (h2:∀n,okN m n→ρ2 (φ n)=ρ n) {v:V} {v':Value} (hv:VRel ρ2 M (renC1 φ v) v') (hk:okC m v):VRel ρ M v v':=by
 cases v with
 | ref n o=>cases hv with|ref e=>exact .ref ((h2 _ hk).symm.trans e)
 | rpt n z i k=>cases hv with|rpt e=>exact .rpt ((h2 _ hk).symm.trans e)
 | rsl n z i l=>
  cases hv with
  | rsl e a b=>exact .rsl ((h2 _ hk).symm.trans e) a b
  | rsl0=>exact .rsl0
 | asl n z o l c=>
  cases hv with
  | asl e a=>exact .asl ((h2 _ hk).symm.trans e) a
  | asl0=>exact .asl0
 | sub n j o=>cases hv with|sub e e2=>exact .sub ((h2 _ hk).symm.trans e) e2
 | undef=>exact .undef _
 | int k n=>exact(PureV.int k n).any hv
 | bool b=>exact(PureV.bool b).any hv
 | nilp=>exact PureV.nilp.any hv
 | nils=>exact PureV.nils.any hv
 | fn f=>exact(PureV.fn f).any hv
 | lst z es=>exact(PureV.lst hk).any hv
 | lpt z es i k=>exact(PureV.lpt hk).any hv
 | agg=>exact hk.elim
 | tup=>exact hk.elim
theorem renCs1_up {m:Nat} {φ:Name→Name} {ρ2:Rho} (h2:∀n,okN m n→ρ2 (φ n)=ρ n):∀{l:List V} {l':List Value},VsRel ρ M l l'→(∀v∈l,okC m v)→VsRel ρ2 M (l.map (renC1 φ)) l'
 | [],l',h,_=>by rw[h.nil_inv];exact .nil
 | v::r,l',h,hk=>by
  obtain⟨v',r',rfl,h1,h3⟩:=h.uncons
  exact .cons (renC1_up h2 h1 (hk v List.mem_cons_self)) (renCs1_up h2 h3 fun v hv=>hk v (List.mem_cons_of_mem _ hv))
theorem renCs1_down {m:Nat} {φ:Name→Name} {ρ2:Rho} (h2:∀n,okN m n→ρ2 (φ n)=ρ n):∀{l:List V} {l':List Value},VsRel ρ2 M (l.map (renC1 φ)) l'→(∀v∈l,okC m v)→VsRel ρ M l l'
 | [],l',h,_=>by rw[VsRel.nil_inv h];exact .nil
 | v::r,l',h,hk=>by
  rw[List.map_cons] at h
  obtain⟨v',r',rfl,h1,h3⟩:=h.uncons
  exact .cons (renC1_down h2 h1 (hk v List.mem_cons_self)) (renCs1_down h2 h3 fun v hv=>hk v (List.mem_cons_of_mem _ hv))
def nameAt (l:List Name) (n:Name):Name:=match n with
 | (0,j)=>match lget l j with
  | some m=>m
  | none=>n
 | n=>n
theorem nameAt_get {l:List Name} {j:Nat} {n:Name} (h:l[j]?=some n):nameAt l (0,j)=n:=by
 simp[nameAt,lget_eq,h]
end
variable {A:Type} {R:Rep A} {E:Env} {st:St A} {ρ:Rho} {M:Mem} {S:Name→List Nat} {a:Act} {w:World}
theorem ObRel.rename0 {n n':Name} {ρ':Rho} {B:List Nat} {ob:Ob A} (h:ObRel R ρ M w n B ob) (hk:okOb 0 ob) (hn:ρ' n'=ρ n):ObRel R ρ' M w n' B ob:=by
 cases ob with
 | box cs=>
  obtain⟨b,T,cs',e1,e2,e3,e4,e5⟩:=h
  exact⟨b,T,cs',e1,hn.trans e2,e3,e4.pure hk,e5⟩
 | row z es f=>
  rcases h with⟨b,o,c,T,cs',e1,e2,e3,e4,e5,e6,e7,e8⟩|⟨q1,q2,b,o,q3⟩
  case inr=>exact .inr ⟨q1,q2,b,o,hn.trans q3⟩
  refine .inl ⟨b,o,c,T,cs',e1,hn.trans e2,e3,e4,e5,e6,fun i k e v he hv=>?_,e8⟩
  obtain⟨v',q1,q2⟩:=e7 i k e v he hv
  exact⟨v',q1,(hk e (List.mem_of_getElem? he) v (List.mem_of_getElem? hv)).any q2⟩
 | abs x=>
  obtain⟨b,e1,e2⟩:=h
  exact⟨b,hn.trans e1,e2⟩
 | prow xs=>
  rcases h with⟨b,o,c,T,cs',bs,Ss,e1,e2⟩|⟨q1,q2,b,o,q3⟩
  ·exact .inl ⟨b,o,c,T,cs',bs,Ss,hn.trans e1,e2⟩
  ·exact .inr ⟨q1,q2,b,o,hn.trans q3⟩
structure Hg (A:Type) where
 s:Nat
 g:Nat
 ob:Ob A
 x:Nat×Nat×Nat
 B:List Nat
def Hg.nm (h:Hg A):Name:=(h.s+1,h.g+1)
theorem Rel.newAll:∀{l:List (Hg A)} {st:St A} {ρ:Rho} {S:Name→List Nat},Rel R E st ρ M S a w→
  (∀h∈l,okOb 0 h.ob∧∃(ρc:Rho) (nc:Name),ρc nc=some h.x∧ObRel R ρc M w nc h.B h.ob)→(∀h∈l,∃o,st.objs[h.s]?=some (h.g,o))→
  (∀h∈l,∀k∈h.B,k<w.heap.size∧(k∈E.S0∨E.w0.heap.size≤k)∧∀n ob,st.get n=some ob→k∉S n)→
  l.Pairwise (fun h h'=>h.s≠h'.s∧∀k∈h.B,k∉h'.B)→
  ∃ρ' S',Rel R E (l.foldl (fun st h=>st.setOb h.nm (some h.ob)) st) ρ' M S' a w∧ρ.le ρ'∧(∀h∈l,ρ' h.nm=some h.x)∧
   ∀n ob,st.get n=some ob→(∀h∈l,n.1≠h.s+1)→(l.foldl (fun st h=>st.setOb h.nm (some h.ob)) st).get n=some ob∧S' n=S n
 | [],st,ρ,S,h,_,_,_,_=>⟨ρ,S,h,Rho.le_refl _,(fun _ hh=>by cases hh),fun _ _ hn _=>⟨hn,rfl⟩⟩
 | p::l,st,ρ,S,h,h1,h2,h3,h4=>by
  obtain⟨ok,ρc,nc,hx,hob⟩:=h1 p List.mem_cons_self
  obtain⟨o,ho⟩:=h2 p List.mem_cons_self
  have hB:=h3 p List.mem_cons_self
  rw[List.pairwise_cons] at h4
  have hle:=Rho.le_new h ho p.x
  have hnew:=h.new (w':=w) (M':=M) ho (ob:=p.ob) (T:=p.B) (x:=p.x) (hob.rename0 ok (by simp[hx])) (fun b hb=>⟨(hB b hb).1,(hB b hb).2.1,fun n ob hn _=>(hB b hb).2.2 n ob hn⟩) (Mem.le_refl _)
   (fun _ _ _ hv=>.inl hv) (fun _ _ _ _ _ _ _=>rfl) h.mem (fun _ _ _ _ _ _=>rfl) (fun _ _ _=>rfl) (Nat.le_refl _) rfl rfl rfl
  have hkey:∀n ob,(st.setOb (p.s+1,p.g+1) (some p.ob)).get n=some ob→n=(p.s+1,p.g+1)∨(n.1≠p.s+1∧st.get n=some ob):=fun n ob hn=>by
   rw[St.get_setOb_slot ho] at hn
   by_cases e1:n.1=p.s+1
   ·rw[if_pos e1] at hn
    by_cases e2:n.2=p.g+1
    ·exact .inl (Prod.ext e1 e2)
    ·rw[if_neg e2] at hn;cases hn
   ·rw[if_neg e1] at hn;exact .inr ⟨e1,hn⟩
  obtain⟨ρ',S',k1,k2,k3,k4⟩:=Rel.newAll (l:=l) hnew (fun q hq=>h1 q (List.mem_cons_of_mem _ hq)) (fun q hq=>by
    obtain⟨o',ho'⟩:=h2 q (List.mem_cons_of_mem _ hq)
    refine⟨o',?_⟩
    simp only[St.setOb,lset_eq]
    rw[List.getElem?_set_ne (h4.1 q hq).1];exact ho')
   (fun q hq k hk=>by
    obtain⟨q1,q2,q3⟩:=h3 q (List.mem_cons_of_mem _ hq) k hk
    refine⟨q1,q2,fun n ob hn=>?_⟩
    rcases hkey n ob hn with rfl|⟨e1,e2⟩
    ·simp only[if_true];exact fun hc=>(h4.1 q hq).2 k hc hk
    ·have:n≠(p.s+1,p.g+1):=fun e=>e1 (by rw[e])
     simp only[if_neg this];exact q3 n ob e2) h4.2
  refine⟨ρ',S',k1,Rho.le_trans hle k2,fun q hq=>?_,fun n ob hn hs=>?_⟩
  ·rcases List.mem_cons.1 hq with rfl|hq
   ·exact k2 _ _ (by simp[Hg.nm])
   ·exact k3 q hq
  ·have hns:=hs p List.mem_cons_self
   have hne:n≠(p.s+1,p.g+1):=fun e=>hns (by rw[e])
   have:=k4 n ob (by rw[St.get_setOb_slot ho,if_neg hns];exact hn) fun q hq=>hs q (List.mem_cons_of_mem _ hq)
   refine⟨this.1,this.2.trans ?_⟩
   simp only[if_neg hne]
inductive ObLe:Ob A→Ob A→Prop
 | refl (o:Ob A):ObLe o o
 | trim (z:Nat) (es:List (List V)) (k:Nat):ObLe (.row z es false) (.row z (es.take k) false)
theorem ObLe.rel {n:Name} {B:List Nat} {o o':Ob A} (h:ObLe o o') (hr:ObRel R ρ M w n B o):ObRel R ρ M w n B o':=by
 cases h with
 | refl=>exact hr
 | trim z es k=>
  rcases hr with⟨b,o,c,T,cs',e1,e2,e3,e4,e5,e6,e7,e8⟩|⟨q1,q2,b,o,q3⟩
  case inr=>exact .inr ⟨by rw[q1];simp,q2,b,o,q3⟩
  refine .inl ⟨b,o,c,T,cs',e1,e2,e3,e4,Nat.le_trans (Nat.mul_le_mul_right _ (by simp;omega)) e5,fun e he=>e6 e (List.mem_of_mem_take he),fun i k' e v he hv=>?_,fun j hj=>?_⟩
  ·rw[List.getElem?_take] at he
   split at he
   ·exact e7 i k' e v he hv
   ·cases he
  ·have:=(e8 j hj).1;cases this
inductive ObsLe:List (Ob A)→List (Ob A)→Prop
 | nil:ObsLe [] []
 | cons {o o':Ob A} {l l':List (Ob A)}:ObLe o o'→ObsLe l l'→ObsLe (o::l) (o'::l')
theorem ObsLe.get:∀{l l':List (Ob A)},ObsLe l l'→l.length=l'.length∧∀(i:Nat) (o':Ob A),l'[i]?=some o'→∃o,l[i]?=some o∧ObLe o o'
 | _,_,.nil=>⟨rfl,fun i o h=>by simp at h⟩
 | _,_,.cons h1 h2=>by
  obtain⟨q1,q2⟩:=h2.get
  refine⟨by simp[q1],fun i o' hi=>?_⟩
  cases i with
  | zero=>simp at hi;subst hi;exact⟨_,rfl,h1⟩
  | succ i=>exact q2 i o' (by simpa using hi)
theorem Rel.killAll:∀{l:List Name} {st:St A},Rel R E st ρ M S a w→(∀m∈l,∃ob,st.get m=some ob)→l.Nodup→Rel R E (setObs st (l.map fun m=>(m,none))) ρ M S a w∧
  (∀n ob,st.get n=some ob→n∉l→(setObs st (l.map fun m=>(m,none))).get n=some ob)∧(∀n ob,(setObs st (l.map fun m=>(m,none))).get n=some ob→n∉l∧st.get n=some ob)
 | [],st,h,_,_=>⟨h,fun _ _ h _=>h,fun _ _ h=>⟨by simp,h⟩⟩
 | m::r,st,h,hl,hnd=>by
  obtain⟨ob,hm⟩:=hl m List.mem_cons_self
  rw[List.nodup_cons] at hnd
  obtain⟨k1,k2,k3⟩:=Rel.killAll (l:=r) (st:=st.setOb m none) (h.kill hm) (fun m' hm'=>by
   obtain⟨ob',h'⟩:=hl m' (List.mem_cons_of_mem _ hm')
   exact⟨ob',St.get_setOb_ne hm h' (fun e=>hnd.1 (by rw[←e];exact hm')) none⟩) hnd.2
  refine⟨k1,fun n ob' hn hnot=>?_,fun n ob' hn=>?_⟩
  ·rw[List.mem_cons,not_or] at hnot
   exact k2 n ob' (St.get_setOb_ne hm hn hnot.1 none) hnot.2
  ·obtain⟨q1,q2⟩:=k3 n ob' hn
   rcases St.get_setOb_live hm none q2 with⟨_,e⟩|⟨e1,e2⟩
   ·cases e
   ·exact⟨by rw[List.mem_cons,not_or];exact⟨e1,q1⟩,e2⟩
variable [Deep A]
def opened (n:Name) (x:A) (sl:List (Nat×Nat)):List (Name×Option (Ob A)):=
 (n,some (.box (List.replicate (Deep.op x).1.length .undef)))::((sl.zip (Deep.op x).2).map fun p=>((p.1.1+1,p.1.2+1),some p.2)) ++
  [(n,some (.box ((Deep.op x).1.map (renC1 (nameAt (sl.map fun p=>(p.1+1,p.2+1)))))))]
theorem Rel.open (hR:RepOk R) (h:Rel R E st ρ M S a w) {n:Name} {x:A} (hn:st.get n=some (.abs x)) {sl:List (Nat×Nat)} (hl:sl.length=(Deep.op x).2.length)
  (hs:∀p∈sl,∃o,st.objs[p.1]?=some (p.2,o)) (hnd:sl.Pairwise fun p q=>p.1≠q.1) (hns:∀p∈sl,n.1≠p.1+1) :
  ∃ρ' S',ρ.le ρ'∧Rel R E (setObs st (opened n x sl)) ρ' M S' a w:=by
 obtain⟨b,e1,e2⟩:=h.objs n _ hn
 obtain⟨ρc,Ss,T,cs',o⟩:=hR.opens e2
 have hmemS:∀i,i<(Deep.op x).2.length→∀k∈Ss i,k∈S n:=fun i hi k hk=>by
  rw[o.all];exact List.mem_cons_of_mem _ (List.mem_flatten.2 ⟨Ss i,List.mem_map.2 ⟨i,List.mem_range.2 hi,rfl⟩,hk⟩)
 have hbS:b∈S n:=by rw[o.all];exact List.mem_cons_self
 have hother:∀k∈S n,∀n' ob1,st.get n'=some ob1→n'≠n→k∉S n':=fun k hk n' ob1 h1 h2=>h.disj n n' _ _ hn h1 (Ne.symm h2) k hk
 have hbox:ObRel R ρ M w n [b] (.box (List.replicate (Deep.op x).1.length .undef)):=⟨b,T,cs',rfl,by rw[List.length_replicate,←hR.size];exact e1,o.heap,⟨by simp[o.rel.1],fun i v v' hv _=>by
  rw[List.getElem?_replicate] at hv
  split at hv
  ·cases hv;exact .undef _
  ·cases hv⟩,o.mem⟩
 have h1:=h.reob hn hbox fun k hk=>by
  simp at hk;subst hk
  exact⟨h.blt n _ hn _ hbS,h.own n _ hn _ hbS,hother _ hbS⟩
 have hn1:(st.setOb n (some (Ob.box (List.replicate (Deep.op x).1.length .undef)))).get n=some (.box (List.replicate (Deep.op x).1.length .undef)):=St.get_setOb_self hn _
 have hloc:∀i,i<(Deep.op x).2.length→∃y,ρc (0,i)=some y:=fun i hi=>(o.inner i _ (List.getElem?_eq_getElem hi)).named
 let hg:Nat→Hg A:=fun i=>⟨(sl.getD i (0,0)).1,(sl.getD i (0,0)).2,((Deep.op x).2[i]?).getD (.box []),(ρc (0,i)).getD (0,0,0),Ss i⟩
 let L:List (Hg A):=(List.range (Deep.op x).2.length).map hg
 have hL:∀q∈L,∃i,i<(Deep.op x).2.length∧q=hg i:=fun q hq=>by
  obtain⟨i,hi,rfl⟩:=List.mem_map.1 hq
  exact⟨i,List.mem_range.1 hi,rfl⟩
 have hob:∀i,(hi:i<(Deep.op x).2.length)→(hg i).ob=(Deep.op x).2[i]:=fun i hi=>by
  simp[hg,List.getElem?_eq_getElem hi]
 have hsl:∀i,(hi:i<(Deep.op x).2.length)→sl[i]?=some ((hg i).s,(hg i).g):=fun i hi=>by
  have:i<sl.length:=by omega
  simp[hg,this]
 have hkey:∀n' ob1,(st.setOb n (some (Ob.box (List.replicate (Deep.op x).1.length .undef)))).get n'=some ob1→n'=n∨(n'≠n∧st.get n'=some ob1):=fun n' ob1 h'=>by
  rcases St.get_setOb_live hn _ h' with⟨q,_⟩|q
  ·exact .inl q
  ·exact .inr q
 obtain⟨ρ',S',k1,k2,k3,k4⟩:=Rel.newAll (l:=L) h1 (fun q hq=>by
   obtain⟨i,hi,rfl⟩:=hL q hq
   rw[hob i hi]
   refine⟨o.obs i _ (List.getElem?_eq_getElem hi),ρc,(0,i),?_,o.inner i _ (List.getElem?_eq_getElem hi)⟩
   obtain⟨y,hy⟩:=hloc i hi
   simp[hg,hy])
  (fun q hq=>by
   obtain⟨i,hi,rfl⟩:=hL q hq
   have hm:=List.mem_of_getElem? (hsl i hi)
   obtain⟨o',ho'⟩:=hs _ hm
   obtain⟨n1,gn⟩:=n
   cases n1 with
   | zero=>exact⟨o',ho'⟩
   | succ k=>
    have hne:=hns _ hm
    refine⟨o',?_⟩
    simp only[St.setOb,lset_eq]
    rw[List.getElem?_set_ne (fun e=>hne (by simp[e]))];exact ho')
  (fun q hq k hk=>by
   obtain⟨i,hi,rfl⟩:=hL q hq
   have hkS:=hmemS i hi k hk
   refine⟨h.blt n _ hn k hkS,h.own n _ hn k hkS,fun n' ob1 h'=>?_⟩
   rcases hkey n' ob1 h' with rfl|⟨q1,q2⟩
   ·simp only[if_true,List.mem_singleton]
    exact fun e=>o.out i hi (by rw[←e];exact hk)
   ·simp only[if_neg q1];exact hother k hkS n' ob1 q2 q1)
  (by
   rw[List.pairwise_map]
   refine List.Pairwise.imp_of_mem ?_ (List.pairwise_lt_range (n:=(Deep.op x).2.length))
   intro i j hi hj hij
   have hi:=List.mem_range.1 hi
   have hj:=List.mem_range.1 hj
   refine⟨?_,o.apart i j hi hj (by omega)⟩
   have q1:=hsl i hi
   have q2:=hsl j hj
   obtain⟨hi',q1⟩:=List.getElem?_eq_some_iff.1 q1
   obtain⟨hj',q2⟩:=List.getElem?_eq_some_iff.1 q2
   have:=(List.pairwise_iff_getElem.1 hnd) i j hi' hj' hij
   rw[q1,q2] at this
   exact this)
 obtain⟨q1,q2⟩:=k4 n _ hn1 fun q hq=>by
  obtain⟨i,hi,rfl⟩:=hL q hq
  exact hns _ (List.mem_of_getElem? (hsl i hi))
 simp only[if_true] at q2
 have hnm:∀i,i<(Deep.op x).2.length→nameAt (sl.map fun p=>(p.1+1,p.2+1)) (0,i)=(hg i).nm:=fun i hi=>by
  refine nameAt_get ?_
  rw[List.getElem?_map,hsl i hi];rfl
 have hρ:∀m,okN (Deep.op x).2.length m→ρ' (nameAt (sl.map fun p=>(p.1+1,p.2+1)) m)=ρc m:=fun m hm=>by
  obtain⟨m1,i⟩:=m
  obtain⟨h0,hi⟩:=hm
  simp only at h0 hi
  subst h0
  rw[hnm i hi,k3 (hg i) (List.mem_map.2 ⟨i,List.mem_range.2 hi,rfl⟩)]
  obtain⟨y,hy⟩:=hloc i hi
  simp[hg,hy]
 have hbox2:ObRel R ρ' M w n [b] (.box ((Deep.op x).1.map (renC1 (nameAt (sl.map fun p=>(p.1+1,p.2+1)))))):=
  ⟨b,T,cs',rfl,by rw[List.length_map,←hR.size];exact k2 _ _ e1,o.heap,renCs1_up hρ o.rel o.cells,o.mem⟩
 have hfin:=k1.reob q1 hbox2 fun k hk=>by
  have hk':k∈S' n:=by rw[q2];exact hk
  exact⟨k1.blt n _ q1 k hk',k1.own n _ q1 k hk',fun n' ob1 h1 h2=>k1.disj n n' _ _ q1 h1 (Ne.symm h2) k hk'⟩
 refine⟨ρ',(fun k=>if k=n then[b] else S' k),k2,?_⟩
 have hst:setObs st (opened n x sl)=(L.foldl (fun st h=>st.setOb h.nm (some h.ob)) (st.setOb n (some (Ob.box (List.replicate (Deep.op x).1.length .undef))))).setOb n (some (.box ((Deep.op x).1.map (renC1 (nameAt (sl.map fun p=>(p.1+1,p.2+1))))))):=by
  unfold opened
  rw[List.cons_append,setObs,List.foldl_cons,List.foldl_append]
  have hzip:((sl.zip (Deep.op x).2).map fun p=>((p.1.1+1,p.1.2+1),some p.2))=L.map fun h=>(h.nm,some h.ob):=by
   refine List.ext_getElem? fun i=>?_
   simp only[List.getElem?_map,L]
   by_cases hi:i<(Deep.op x).2.length
   ·have hz:(sl.zip (Deep.op x).2)[i]?=some (((hg i).s,(hg i).g),(Deep.op x).2[i]):=List.getElem?_zip_eq_some.2 ⟨hsl i hi,List.getElem?_eq_getElem hi⟩
    rw[List.getElem?_range hi,hz]
    simp only[Option.map_some,hob i hi]
    rfl
   ·rw[List.getElem?_eq_none (by simp;omega),List.getElem?_eq_none (by simp;omega)]
    rfl
  rw[hzip,List.foldl_map]
  rfl
 rw[hst]
 exact hfin
structure Shut (x:A) (inner:List Name) (cs:List V) (obs:List (Ob A)):Prop where
 cells:(Deep.op x).1.map (renC1 (nameAt inner))=cs
 obs:ObsLe obs (Deep.op x).2
 okC:∀c∈(Deep.op x).1,Vm.okC (Deep.op x).2.length c
 okOb:∀ob∈(Deep.op x).2,Vm.okOb 0 ob
def shutL (n:Name) (x:A) (inner:List Name):List (Name×Option (Ob A)):=(inner.map fun m=>(m,none))++[(n,some (.abs x))]
theorem Rel.shut (hR:RepOk R) (h:Rel R E st ρ M S a w) {n:Name} {cs:List V} (hn:st.get n=some (.box cs)) {inner:List Name} {obs:List (Ob A)} (hi:obs.length=inner.length) (hin:∀p∈inner.zip obs,st.get p.1=some p.2)
  (hni:n∉inner) (hnd:inner.Nodup) {x:A} (hx:Shut x inner cs obs):∃S',Rel R E (setObs st (shutL n x inner)) ρ M S' a w:=by
 obtain⟨hl,hle⟩:=hx.obs.get
 have hget:∀i,i<inner.length→∃m o,inner[i]?=some m∧obs[i]?=some o∧st.get m=some o:=fun i hi'=>by
  refine⟨inner[i],obs[i]'(by omega),List.getElem?_eq_getElem hi',List.getElem?_eq_getElem (by omega),hin (inner[i],obs[i]'(by omega)) (List.mem_iff_getElem?.2 ⟨i,List.getElem?_zip_eq_some.2 ⟨List.getElem?_eq_getElem hi',List.getElem?_eq_getElem (by omega)⟩⟩)⟩
 have hlive:∀m∈inner,∃ob,st.get m=some ob:=fun m hm=>by
  obtain⟨i,hi1,rfl⟩:=List.mem_iff_getElem.1 hm
  obtain⟨m',o,q1,q2,q3⟩:=hget i hi1
  rw[List.getElem?_eq_getElem hi1] at q1;cases q1
  exact⟨o,q3⟩
 obtain⟨k1,k2,k3⟩:=h.killAll hlive hnd
 have hn':=k2 n _ hn hni
 obtain⟨b,T,cs',e1,e2,e3,e4,e5⟩:=h.objs n _ hn
 let ρc:Rho:=fun m=>if m.1=0∧m.2<inner.length then ρ (nameAt inner m) else none
 let Ss:Nat→List Nat:=fun i=>S (nameAt inner (0,i))
 have hρ:∀m,okN (Deep.op x).2.length m→ρ (nameAt inner m)=ρc m:=fun m hm=>by
  simp only[ρc];rw[if_pos ⟨hm.1,by have:=hm.2;omega⟩]
 have hnm:∀i m,inner[i]?=some m→nameAt inner (0,i)=m:=fun i m hm=>nameAt_get hm
 have hS0:∀i,i<(Deep.op x).2.length→∃m o,inner[i]?=some m∧Ss i=S m∧st.get m=some o:=fun i hi'=>by
  obtain⟨m,o,q1,q2,q3⟩:=hget i (by omega)
  exact⟨m,o,q1,by simp only[Ss];rw[hnm i m q1],q3⟩
 have hbS:b∈S n:=by rw[e1];simp
 have hrep:R.rep x M w b (b::((List.range (Deep.op x).2.length).map Ss).flatten):=by
  refine hR.shuts ⟨ρc,Ss,T,cs',?_⟩
  exact {
   cells:=hx.okC
   obs:=fun i ob hi'=>hx.okOb ob (List.mem_of_getElem? hi')
   heap:=e3
   rel:=by rw[←hx.cells] at e4;exact renCs1_down hρ e4 hx.okC
   mem:=e5
   inner:=fun i ob hi'=>by
    obtain⟨o,q1,q2⟩:=hle i ob hi'
    have hil:i<inner.length:=by have:=(List.getElem?_eq_some_iff.1 q1).1;omega
    obtain⟨m,o',p1,p2,p3⟩:=hget i hil
    rw[q1] at p2;cases p2
    have:=q2.rel (h.objs m _ p3)
    simp only[Ss,hnm i m p1]
    exact this.rename0 (hx.okOb ob (List.mem_of_getElem? hi')) ((by simp only[ρc];rw[if_pos ⟨trivial,hil⟩,hnm i m p1]))
   out:=fun i hi' hb=>by
    obtain⟨m,o,p1,p2,p3⟩:=hS0 i hi'
    rw[p2] at hb
    exact h.disj n m _ _ hn p3 (fun e=>hni (by rw[e];exact List.mem_of_getElem? p1)) b hbS hb
   apart:=fun i j hi' hj' hij k hk hk'=>by
    obtain⟨m,o,p1,p2,p3⟩:=hS0 i hi'
    obtain⟨m',o',p1',p2',p3'⟩:=hS0 j hj'
    rw[p2] at hk
    rw[p2'] at hk'
    refine h.disj m m' _ _ p3 p3' (fun e=>hij ?_) k hk hk'
    subst e
    exact(List.getElem?_inj (List.getElem?_eq_some_iff.1 p1).1 hnd).1 (p1.trans p1'.symm)
   all:=rfl}
 have hlen:(Deep.op x).1.length=cs.length:=by rw[←hx.cells];simp
 have:=k1.reob hn' (ob':=.abs x) (T:=b::((List.range (Deep.op x).2.length).map Ss).flatten) ⟨b,by rw[hR.size,hlen];exact e2,hrep⟩ fun k hk=>by
  rcases List.mem_cons.1 hk with rfl|hk
  ·exact⟨h.blt n _ hn _ hbS,h.own n _ hn _ hbS,fun n' ob1 h1 h2=>h.disj n n' _ _ hn (k3 n' ob1 h1).2 (Ne.symm h2) _ hbS⟩
  ·obtain⟨l,hl',hkl⟩:=List.mem_flatten.1 hk
   obtain⟨i,hi',rfl⟩:=List.mem_map.1 hl'
   obtain⟨m,o,p1,p2,p3⟩:=hS0 i (List.mem_range.1 hi')
   rw[p2] at hkl
   refine⟨h.blt m _ p3 k hkl,h.own m _ p3 k hkl,fun n' ob1 h1 _=>?_⟩
   obtain⟨q1,q2⟩:=k3 n' ob1 h1
   exact h.disj m n' _ _ p3 q2 (fun e=>q1 (by rw[←e];exact List.mem_of_getElem? p1)) k hkl
 rw[shutL,setObs_append]
 exact⟨_,this⟩
end Go.Vm
