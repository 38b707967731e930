/- A part of the proofs over the seat YtbppemcdphgknaaDoor. -/
import Derived.Test.YtbppemcdphgknaaDoorVm13
set_option linter.unusedVariables false
set_option linter.unusedSimpArgs false
namespace Go.Vm
open Go
variable {P:Program} {T:TT} {A:Type} {R:Rep A} {E:Env} {st:St A} {ρ:Rho} {M:Mem} {S:Name→List Nat} {a:Act} {w:World} {ns:List Name} {flat:Nat→Bool} {G:Nat→V}
structure XPost (R:Rep A) (ρ:Rho) (M:Mem) (S:Name→List Nat) (w:World) (os:List (Name×Ob A)) (d:Name) (os':List (Name×Ob A)) (ρ':Rho) (M':Mem) (S':Name→List Nat) (w':World):Prop where
 le:M.le M'
 mem:MemOk M' w'
 size:w.heap.size≤w'.heap.size
 hos:w'.os=w.os
 tape:w'.tape=w.tape
 output:w'.output=w.output
 rho:∀n,n≠d→ρ' n=ρ n
 heap:∀b,b<w.heap.size→(∀p∈os,b∉S p.1)→w'.heap[b]?=w.heap[b]?
 new:∀b o v,M' b o=some v→M b o=some v∨w.heap.size≤b∨∃p∈os,b∈S p.1
 objs:∀p∈os',ObRel R ρ' M' w' p.1 (S' p.1) p.2
 own:∀p∈os',∀b∈S' p.1,(∃q∈os,b∈S q.1)∨w.heap.size≤b
 disj:∀p∈os',∀q∈os',p.1≠q.1→∀b∈S' p.1,b∉S' q.1
 blt:∀p∈os',∀b∈S' p.1,b<w'.heap.size
def newOb (d:Name) (nw:Option (Ob A)):List (Name×Ob A):=match nw with
 | none=>[]
 | some o=>[(d,o)]
def XTriple (P:Program) (G:Nat→V) (R:Rep A) (f:FuncId) (args:List V) (nms:List Name) (obs:List (Ob A)) (d:Name) (r:V) (obs':List (Ob A)) (nw:Option (Ob A)):Prop:=
 FnOk P f∧obs'.length=obs.length∧∀(w:World) (M:Mem) (ρ:Rho) (S:Name→List Nat) (args':List Value),GOk G M→MemOk M w→VsRel ρ M args args'→ρ d=none→nms.Nodup→
  (∀p∈nms.zip obs,ObRel R ρ M w p.1 (S p.1) p.2)→(∀p∈nms.zip obs,∀q∈nms.zip obs,p.1≠q.1→∀b∈S p.1,b∉S q.1)→(∀p∈nms.zip obs,∀b∈S p.1,b<w.heap.size)→
  Calls P f args'.toArray w fun e w'=>∃r' M' ρ' S',e=.returned r'∧XPost R ρ M S w (nms.zip obs) d (nms.zip obs'++newOb d nw) ρ' M' S' w'∧(nw=none→ρ' d=none)∧VRel ρ' M' r r'
theorem ObRel.named {n:Name} {T:List Nat} {ob:Ob A} (h:ObRel R ρ M w n T ob):∃x,ρ n=some x:=by
 cases ob with
 | box cs=>obtain⟨b,ty,cs',_,h1,_⟩:=h;exact⟨_,h1⟩
 | row sz es fz=>
  rcases h with⟨b,o,c,ty,cs',_,h1,_⟩|⟨_,_,b,o,h1⟩
  ·exact⟨_,h1⟩
  ·exact⟨_,h1⟩
 | abs x=>obtain⟨b,h1,_⟩:=h;exact⟨_,h1⟩
 | prow xs=>
  rcases h with⟨b,o,c,ty,cs',bs,Ss,h1,_⟩|⟨_,_,b,o,h1⟩
  ·exact⟨_,h1⟩
  ·exact⟨_,h1⟩
theorem Rel.xcore {w':World} {os os':List (Name×Ob A)} {d:Name} {ρ':Rho} {M':Mem} {S':Name→List Nat} (h:Rel R E st ρ M S a w) (X:XPost R ρ M S w os d os' ρ' M' S' w') {st':St A}
  (hg:∀n ob,st'.get n=some ob→(∃p∈os',p.1=n∧p.2=ob)∨((∀p∈os',p.1≠n)∧st.get n=some ob)) (htm:st'.tmps=st.tmps)
  (hfr:∀n g,(∀p,st'.objs[n]?=some p→p.1<g)→ρ' (n+1,g)=none) (hos:∀p∈os,st.get p.1=some p.2) (hcov:∀p∈os,∃q∈os',q.1=p.1) (hd:ρ d=none) (hd0:d.1≠0) :
  Rel R E st' ρ' M' (fun n=>if n∈os'.map (·.1) then S' n else S n) a w':=by
 have hle:ρ.le ρ':=fun n x hx=>by
  rw[X.rho n (fun e=>by subst e;rw[hd] at hx;cases hx)];exact hx
 have hin:∀{n:Name},(∃p∈os',p.1=n)→n∈os'.map (·.1):=fun {n} ⟨p,h1,h2⟩=>List.mem_map.2 ⟨p,h1,h2⟩
 have hout:∀{n:Name},(∀p∈os',p.1≠n)→n∉os'.map (·.1):=fun {n} h1 h2=>by
  obtain⟨p,h3,h4⟩:=List.mem_map.1 h2
  exact h1 p h3 h4
 have hold:∀{n:Name} {ob:Ob A},(∀p∈os',p.1≠n)→st.get n=some ob→∀b∈S n,∀q∈os,b∉S q.1:=fun {n ob} h1 h2 b hb q hq=>by
  obtain⟨q',h3,h4⟩:=hcov q hq
  exact h.disj n q.1 _ _ h2 (hos q hq) (fun e=>h1 q' h3 (h4.trans e.symm)) b hb
 exact {
  defers:=h.defers
  tmps:=by rw[htm];exact h.tmps.mono hle X.le
  mem:=X.mem
  objs:=fun n ob hn=>by
   rcases hg n ob hn with⟨p,h1,rfl,rfl⟩|⟨h1,h2⟩
   ·simp only[if_pos (hin ⟨p,h1,rfl⟩)]
    exact X.objs p h1
   ·simp only[if_neg (hout h1)]
    have hob:=h.objs n ob h2
    obtain⟨x,hx⟩:=hob.named
    refine hob.of_heap (X.rho n (fun e=>by subst e;rw[hd] at hx;cases hx)) hle X.le (fun b hb o=>?_) (fun b hb=>X.heap b (h.blt n ob h2 b hb) (hold h1 h2 b hb))
    have hlt:=h.blt n ob h2 b hb
    cases hm:M b o with
    | some v=>exact X.le _ _ _ hm
    | none=>
     cases hm':M' b o with
     | none=>rfl
     | some v=>
      rcases X.new b o v hm' with h3|h3|⟨q,h3,h4⟩
      ·rw[hm] at h3;cases h3
      ·omega
      ·exact absurd h4 (hold h1 h2 b hb q h3)
  disj:=fun n n' ob ob' hn hn' hne b=>by
   rcases hg n ob hn with⟨p,h1,rfl,rfl⟩|⟨h1,h2⟩<;>rcases hg n' ob' hn' with⟨p',h3,rfl,rfl⟩|⟨h3,h4⟩
   ·simp only[if_pos (hin ⟨p,h1,rfl⟩),if_pos (hin ⟨p',h3,rfl⟩)]
    exact X.disj p h1 p' h3 hne b
   ·simp only[if_pos (hin ⟨p,h1,rfl⟩),if_neg (hout h3)]
    intro hb hb'
    rcases X.own p h1 b hb with⟨q,h5,h6⟩|h5
    ·exact hold h3 h4 b hb' q h5 h6
    ·have:=h.blt n' ob' h4 b hb';omega
   ·simp only[if_neg (hout h1),if_pos (hin ⟨p',h3,rfl⟩)]
    intro hb hb'
    rcases X.own p' h3 b hb' with⟨q,h5,h6⟩|h5
    ·exact hold h1 h2 b hb q h5 h6
    ·have:=h.blt n ob h2 b hb;omega
   ·simp only[if_neg (hout h1),if_neg (hout h3)]
    exact h.disj n n' ob ob' h2 h4 hne b
  blt:=fun n ob hn b hb=>by
   rcases hg n ob hn with⟨p,h1,rfl,rfl⟩|⟨h1,h2⟩
   ·simp only[if_pos (hin ⟨p,h1,rfl⟩)] at hb
    exact X.blt p h1 b hb
   ·simp only[if_neg (hout h1)] at hb
    exact Nat.lt_of_lt_of_le (h.blt n ob h2 b hb) X.size
  own:=fun n ob hn b hb=>by
   rcases hg n ob hn with⟨p,h1,rfl,rfl⟩|⟨h1,h2⟩
   ·simp only[if_pos (hin ⟨p,h1,rfl⟩)] at hb
    rcases X.own p h1 b hb with⟨q,h5,h6⟩|h5
    ·exact h.own q.1 q.2 (hos q h5) b h6
    ·exact .inr (Nat.le_trans h.hsize h5)
   ·simp only[if_neg (hout h1)] at hb
    exact h.own n ob h2 b hb
  fresh:=hfr
  hsize:=Nat.le_trans h.hsize X.size
  keep:=fun b hb hb'=>(X.heap b (Nat.lt_of_lt_of_le hb h.hsize) (fun q hq hbq=>by
   rcases h.own q.1 q.2 (hos q hq) b hbq with h1|h1
   ·exact hb' h1
   ·omega)).trans (h.keep b hb hb')
  os:=X.hos.trans h.os
  tape:=X.tape.trans h.tape
  output:=X.output.trans h.output
  M0:=Mem.le_trans h.M0 X.le
  Mnew:=fun b o v hv=>by
   rcases X.new b o v hv with h1|h1|⟨q,h1,h2⟩
   ·exact h.Mnew b o v h1
   ·exact .inr (.inl (Nat.le_trans h.hsize h1))
   ·rcases h.own q.1 q.2 (hos q h1) b h2 with h3|h3
    ·exact .inr (.inr h3)
    ·exact .inr (.inl h3)
  ρ0:=fun k x hx=>(X.rho _ (fun e=>hd0 (by rw[←e]))).trans (h.ρ0 k x hx)}
def setObs (st:St A) (l:List (Name×Option (Ob A))):St A:=l.foldl (fun s x=>s.setOb x.1 x.2) st
theorem setObs_append (st:St A) (l l':List (Name×Option (Ob A))):setObs st (l++l')=setObs (setObs st l) l':=by simp[setObs]
theorem setObs_get:∀{l:List (Name×Ob A)} {st:St A},(∀p∈l,∃ob,st.get p.1=some ob)→(l.map (·.1)).Nodup→∀n ob,(setObs st (l.map fun p=>(p.1,some p.2))).get n=some ob→
  (∃p∈l,p.1=n∧p.2=ob)∨((∀p∈l,p.1≠n)∧st.get n=some ob)
 | [],st,_,_,n,ob,h=>.inr ⟨(fun _ h=>by cases h),h⟩
 | p::r,st,hl,hnd,n,ob,h=>by
  obtain⟨ob0,h0⟩:=hl p List.mem_cons_self
  rw[List.map_cons,List.nodup_cons] at hnd
  have hl':∀q∈r,∃ob,(st.setOb p.1 (some p.2)).get q.1=some ob:=fun q hq=>by
   obtain⟨ob1,h1⟩:=hl q (List.mem_cons_of_mem _ hq)
   exact⟨ob1,St.get_setOb_ne h0 h1 (fun e=>hnd.1 (List.mem_map.2 ⟨q,hq,e⟩)) _⟩
  rcases setObs_get (st:=st.setOb p.1 (some p.2)) hl' hnd.2 n ob h with⟨q,h1,h2,h3⟩|⟨h1,h2⟩
  ·exact .inl ⟨q,List.mem_cons_of_mem _ h1,h2,h3⟩
  ·rcases St.get_setOb_live h0 _ h2 with⟨rfl,h3⟩|⟨h3,h4⟩
   ·exact .inl ⟨p,List.mem_cons_self,rfl,Option.some.inj h3⟩
   ·refine .inr ⟨fun q hq=>?_,h4⟩
    rcases List.mem_cons.1 hq with rfl|hq
    ·exact fun e=>h3 e.symm
    ·exact h1 q hq
theorem setObs_tmps:∀{l:List (Name×Option (Ob A))} {st:St A},(setObs st l).tmps=st.tmps
 | [],_=>rfl
 | p::r,st=>(setObs_tmps (l:=r)).trans (St.tmps_setOb _ _)
theorem setObs_slot {s g:Nat}:∀{l:List (Name×Ob A)} {st:St A} {o₀:Option (Ob A)},(∀p∈l,∃ob,st.get p.1=some ob)→(l.map (·.1)).Nodup→st.objs[s]?=some (g,o₀)→
  ∃o₁,(setObs st (l.map fun p=>(p.1,some p.2))).objs[s]?=some (g,o₁)
 | [],_,o₀,_,_,h=>⟨o₀,h⟩
 | p::r,st,o₀,hl,hnd,h=>by
  obtain⟨ob0,h0⟩:=hl p List.mem_cons_self
  rw[List.map_cons,List.nodup_cons] at hnd
  have hl':∀q∈r,∃ob,(st.setOb p.1 (some p.2)).get q.1=some ob:=fun q hq=>by
   obtain⟨ob1,h1⟩:=hl q (List.mem_cons_of_mem _ hq)
   exact⟨ob1,St.get_setOb_ne h0 h1 (fun e=>hnd.1 (List.mem_map.2 ⟨q,hq,e⟩)) _⟩
  have hs:∃o₁,(st.setOb p.1 (some p.2)).objs[s]?=some (g,o₁):=by
   obtain⟨⟨n1,n2⟩,pv⟩:=p
   cases n1 with
   | zero=>exact⟨o₀,h⟩
   | succ m=>
    have hm:=St.get_slot_gen h0
    simp only[St.setOb,lset_eq]
    by_cases e:m=s
    ·subst e
     rw[h] at hm;cases hm
     exact⟨some pv,List.getElem?_set_self (List.getElem?_eq_some_iff.1 h).1⟩
    ·exact⟨o₀,by rw[List.getElem?_set_ne e];exact h⟩
  obtain⟨o₁,hs⟩:=hs
  exact setObs_slot (l:=r) (st:=st.setOb p.1 (some p.2)) (o₀:=o₁) hl' hnd.2 hs
theorem setObs_fresh {ρ:Rho}:∀{l:List (Name×Ob A)} {st:St A},(∀p∈l,∃ob,st.get p.1=some ob)→(l.map (·.1)).Nodup→(∀n g,(∀p,st.objs[n]?=some p→p.1<g)→ρ (n+1,g)=none)→
  ∀n g,(∀p,(setObs st (l.map fun p=>(p.1,some p.2))).objs[n]?=some p→p.1<g)→ρ (n+1,g)=none
 | [],_,_,_,h=>h
 | p::r,st,hl,hnd,h=>by
  obtain⟨ob0,h0⟩:=hl p List.mem_cons_self
  rw[List.map_cons,List.nodup_cons] at hnd
  have hl':∀q∈r,∃ob,(st.setOb p.1 (some p.2)).get q.1=some ob:=fun q hq=>by
   obtain⟨ob1,h1⟩:=hl q (List.mem_cons_of_mem _ hq)
   exact⟨ob1,St.get_setOb_ne h0 h1 (fun e=>hnd.1 (List.mem_map.2 ⟨q,hq,e⟩)) _⟩
  exact setObs_fresh (st:=st.setOb p.1 (some p.2)) hl' hnd.2 (St.fresh_setOb h0 _ h)
theorem Rel.xcall {w':World} {nms:List Name} {obs obs':List (Ob A)} {d:Name} {ρ':Rho} {M':Mem} {S':Name→List Nat} (h:Rel R E st ρ M S a w) (hlen:obs'.length=obs.length) (hl2:nms.length=obs.length)
  (hnd:nms.Nodup) (hos:∀p∈nms.zip obs,st.get p.1=some p.2) (hd:ρ d=none) (hd0:d.1≠0) (X:XPost R ρ M S w (nms.zip obs) d (nms.zip obs') ρ' M' S' w') (hρ:ρ' d=none) :
  ∃S'',Rel R E (setObs st ((nms.zip obs').map fun p=>(p.1,some p.2))) ρ' M' S'' a w':=by
 have hn1:(nms.zip obs).map (·.1)=nms:=List.map_fst_zip (by omega)
 have hn2:(nms.zip obs').map (·.1)=nms:=List.map_fst_zip (by omega)
 have hlive:∀p∈nms.zip obs',∃ob,st.get p.1=some ob:=fun p hp=>by
  have:p.1∈(nms.zip obs).map (·.1):=by rw[hn1,←hn2];exact List.mem_map.2 ⟨p,hp,rfl⟩
  obtain⟨q,h1,h2⟩:=List.mem_map.1 this
  exact⟨q.2,by rw[←h2];exact hos q h1⟩
 have hnd':((nms.zip obs').map (·.1)).Nodup:=by rw[hn2];exact hnd
 have hfr:∀n g,(∀p,st.objs[n]?=some p→p.1<g)→ρ' (n+1,g)=none:=fun n g hg=>by
  by_cases e:(n+1,g)=d
  ·rw[e];exact hρ
  ·rw[X.rho _ e];exact h.fresh n g hg
 refine⟨_,h.xcore X (setObs_get hlive hnd') setObs_tmps (setObs_fresh hlive hnd' hfr) hos (fun p hp=>?_) hd hd0⟩
 have:p.1∈(nms.zip obs').map (·.1):=by rw[hn2,←hn1];exact List.mem_map.2 ⟨p,hp,rfl⟩
 obtain⟨q,h1,h2⟩:=List.mem_map.1 this
 exact⟨q,h1,h2⟩
theorem Rel.xcallNew {w':World} {nms:List Name} {obs obs':List (Ob A)} {s g₀ g:Nat} {o₀:Option (Ob A)} {nw:Ob A} {ρ':Rho} {M':Mem} {S':Name→List Nat} (h:Rel R E st ρ M S a w) (hlen:obs'.length=obs.length) (hl2:nms.length=obs.length)
  (hnd:nms.Nodup) (hos:∀p∈nms.zip obs,st.get p.1=some p.2) (hs:st.objs[s]?=some (g₀,o₀)) (hg:g₀<g)
  (X:XPost R ρ M S w (nms.zip obs) (s+1,g) (nms.zip obs'++[((s+1,g),nw)]) ρ' M' S' w') :
  ∃S'',Rel R E (setObs st ((nms.zip obs'++[((s+1,g),nw)]).map fun p=>(p.1,some p.2))) ρ' M' S'' a w':=by
 have hd:ρ (s+1,g)=none:=h.fresh s g fun p hp=>by rw[hs] at hp;cases hp;exact hg
 have hn1:(nms.zip obs).map (·.1)=nms:=List.map_fst_zip (by omega)
 have hn2:(nms.zip obs').map (·.1)=nms:=List.map_fst_zip (by omega)
 have hlive:∀p∈nms.zip obs',∃ob,st.get p.1=some ob:=fun p hp=>by
  have:p.1∈(nms.zip obs).map (·.1):=by rw[hn1,←hn2];exact List.mem_map.2 ⟨p,hp,rfl⟩
  obtain⟨q,h1,h2⟩:=List.mem_map.1 this
  exact⟨q.2,by rw[←h2];exact hos q h1⟩
 have hnd':((nms.zip obs').map (·.1)).Nodup:=by rw[hn2];exact hnd
 obtain⟨o₁,hs1⟩:=setObs_slot (l:=nms.zip obs') (o₀:=o₀) hlive hnd' hs
 have hfr:∀n g',(∀p,(setObs st ((nms.zip obs').map fun p=>(p.1,some p.2))).objs[n]?=some p→p.1<g')→ρ (n+1,g')=none:=setObs_fresh hlive hnd' h.fresh
 have hcov:∀p∈nms.zip obs,∃q∈nms.zip obs'++[((s+1,g),nw)],q.1=p.1:=fun p hp=>by
  have:p.1∈(nms.zip obs').map (·.1):=by rw[hn2,←hn1];exact List.mem_map.2 ⟨p,hp,rfl⟩
  obtain⟨q,h1,h2⟩:=List.mem_map.1 this
  exact⟨q,List.mem_append_left _ h1,h2⟩
 rw[List.map_append,setObs_append]
 have hset:setObs (setObs st ((nms.zip obs').map fun p=>(p.1,some p.2))) ([((s+1,g),nw)].map fun p=>(p.1,some p.2))=(setObs st ((nms.zip obs').map fun p=>(p.1,some p.2))).setOb (s+1,g) (some nw):=rfl
 rw[hset]
 refine⟨_,h.xcore X (fun n ob hn=>?_) ((St.tmps_setOb _ _).trans setObs_tmps) (fun n g' hg'=>?_) hos hcov hd (by simp)⟩
 ·rw[St.get_setOb_slot hs1] at hn
  by_cases h1:n.1=s+1
  ·rw[if_pos h1] at hn
   by_cases h2:n.2=g
   ·rw[if_pos h2] at hn
    exact .inl ⟨((s+1,g),nw),by simp,(Prod.ext h1 h2).symm,Option.some.inj hn⟩
   ·rw[if_neg h2] at hn;cases hn
  ·rw[if_neg h1] at hn
   rcases setObs_get hlive hnd' n ob hn with⟨p,q1,q2,q3⟩|⟨q1,q2⟩
   ·exact .inl ⟨p,List.mem_append_left _ q1,q2,q3⟩
   ·refine .inr ⟨fun p hp=>?_,q2⟩
    rcases List.mem_append.1 hp with hp|hp
    ·exact q1 p hp
    ·simp only[List.mem_singleton] at hp
     subst hp
     exact fun e=>h1 (by rw[←e])
 ·by_cases e:n=s
  ·subst e
   have hlt:g<g':=by
    refine hg' (g,some nw) ?_
    simp only[St.setOb,lset_eq]
    rw[List.getElem?_set_self (List.getElem?_eq_some_iff.1 hs1).1]
   rw[X.rho _ (fun e=>by cases e;omega)]
   refine hfr n g' fun p hp=>?_
   rw[hs1] at hp;cases hp
   omega
  ·rw[X.rho _ (fun e'=>e (by cases e';rfl))]
   refine hfr n g' fun p hp=>?_
   refine hg' p ?_
   simp only[St.setOb,lset_eq]
   rw[List.getElem?_set_ne (Ne.symm e)];exact hp
end Go.Vm
