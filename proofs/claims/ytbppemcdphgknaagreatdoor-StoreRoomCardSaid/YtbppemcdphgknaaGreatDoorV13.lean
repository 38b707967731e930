/- A part of the proofs over the seat YtbppemcdphgknaaGreatDoor. -/
import Derived.Test.YtbppemcdphgknaaGreatDoorVm12
set_option linter.unusedVariables false
set_option linter.unusedSimpArgs false
set_option maxRecDepth 100000
set_option maxHeartbeats 40000000
namespace Go.Vm
open Go
def MemOk (M:Mem) (w:World):Prop:=∀b o v,M b o=some v→w.cell? ⟨b,o,none⟩=some v
structure Grown (M:Mem) (w:World) (M':Mem) (w':World):Prop where
 size:w.heap.size≤w'.heap.size
 heap:∀b,b<w.heap.size→w'.heap[b]?=w.heap[b]?
 os:w'.os=w.os
 tape:w'.tape=w.tape
 output:w'.output=w.output
 le:M.le M'
 new:∀b o v,M' b o=some v→M b o=some v∨w.heap.size≤b
 mem:MemOk M' w'
def FnOk (P:Program) (f:FuncId):Prop:=∃fn,P.funcs[f]?=some fn∧(fn.name == "runtime.NumGoroutine")=false∧fn.body.isNone=false
def BTriple (P:Program) (G:Nat→V) (f:FuncId) (args:List V) (r:V):Prop:=
 FnOk P f∧∀(w:World) (M:Mem) (args':List Value),GOk G M→MemOk M w→VsRel (fun _=>none) M args args'→
  Calls P f args'.toArray w fun e w'=>∃r' M',e=.returned r'∧Grown M w M' w'∧VRel (fun _=>none) M' r r'
def ETriple (P:Program) (f:FuncId) (args:List V) (r:V):Prop:=
 ∀(w:World) (M:Mem) (args':List Value),MemOk M w→VsRel (fun _=>none) M args args'→
  ∃v,(callFunc f args'.toArray).run P w=.ok (.value v) w∧VRel (fun _=>none) M r v
def PTriple (P:Program) (G:Nat→V) (f:FuncId) (args:List V) (r:V):Prop:=BTriple P G f args r∨ETriple P f args r
variable {P:Program} {T:TT} {A:Type} {R:Rep A} {E:Env} {st:St A} {ρ:Rho} {M:Mem} {S:Name→List Nat} {a:Act} {w:World} {ns:List Name} {flat:Nat→Bool} {G:Nat→V}
theorem Rel.grown {M':Mem} {w':World} (h:Rel R E st ρ M S a w) (hg:Grown M w M' w'):Rel R E st ρ M' S a w' where
 defers:=h.defers
 tmps:=h.tmps.mono (Rho.le_refl _) hg.le
 mem:=hg.mem
 objs:=fun n ob hn=>(h.objs n ob hn).of_heap rfl (Rho.le_refl _) hg.le (fun b hb o=>by
  have hlt:=h.blt n ob hn b hb
  cases hm:M b o with
  | some v=>exact hg.le _ _ _ hm
  | none=>
   cases hm':M' b o with
   | none=>rfl
   | some v=>
    rcases hg.new b o v hm' with h1|h1
    ·rw[hm] at h1;cases h1
    ·omega) (fun b hb=>hg.heap b (h.blt n ob hn b hb))
 disj:=h.disj
 blt:=fun n ob hn b hb=>Nat.lt_of_lt_of_le (h.blt n ob hn b hb) hg.size
 own:=h.own
 fresh:=h.fresh
 hsize:=Nat.le_trans h.hsize hg.size
 keep:=fun b hb hb'=>(hg.heap b (Nat.lt_of_lt_of_le hb h.hsize)).trans (h.keep b hb hb')
 os:=hg.os.trans h.os
 tape:=hg.tape.trans h.tape
 output:=hg.output.trans h.output
 M0:=Mem.le_trans h.M0 hg.le
 Mnew:=fun b o v hv=>by
  rcases hg.new b o v hv with h1|h1
  ·exact h.Mnew b o v h1
  ·exact .inr (.inl (Nat.le_trans h.hsize h1))
 ρ0:=h.ρ0
end Go.Vm
namespace Go.Vm
open Go
variable {P:Program} {T:TT} {A:Type} {R:Rep A} {E:Env} {st:St A} {ρ:Rho} {M:Mem} {S:Name→List Nat} {a:Act} {w:World} {ns:List Name} {flat:Nat→Bool} {G:Nat→V}
structure XPost (R:Rep A) (ρ:Rho) (M:Mem) (S:Name→List Nat) (w:World) (os:List (Name×Ob A)) (d:Name) (os':List (Name×Ob A)) (ρ':Rho) (M':Mem) (S':Name→List Nat) (w':World):Prop where
 le:M.le M'
 mem:MemOk M' w'
 size:w.heap.size≤w'.heap.size
 hos:w'.os=w.os
 tape:w'.tape=w.tape
 output:w'.output=w.output
 rho:∀n,n≠d→ρ' n=ρ n
 heap:∀b,b<w.heap.size→(∀p∈os,b∉S p.1)→w'.heap[b]?=w.heap[b]?
 new:∀b o v,M' b o=some v→M b o=some v∨w.heap.size≤b∨∃p∈os,b∈S p.1
 objs:∀p∈os',ObRel R ρ' M' w' p.1 (S' p.1) p.2
 own:∀p∈os',∀b∈S' p.1,(∃q∈os,b∈S q.1)∨w.heap.size≤b
 disj:∀p∈os',∀q∈os',p.1≠q.1→∀b∈S' p.1,b∉S' q.1
 blt:∀p∈os',∀b∈S' p.1,b<w'.heap.size
def newOb (d:Name) (nw:Option (Ob A)):List (Name×Ob A):=match nw with
 | none=>[]
 | some o=>[(d,o)]
def XTriple (P:Program) (G:Nat→V) (R:Rep A) (f:FuncId) (args:List V) (nms:List Name) (obs:List (Ob A)) (d:Name) (r:V) (obs':List (Ob A)) (nw:Option (Ob A)):Prop:=
 FnOk P f∧obs'.length=obs.length∧∀(w:World) (M:Mem) (ρ:Rho) (S:Name→List Nat) (args':List Value),GOk G M→MemOk M w→VsRel ρ M args args'→ρ d=none→nms.Nodup→
  (∀p∈nms.zip obs,ObRel R ρ M w p.1 (S p.1) p.2)→(∀p∈nms.zip obs,∀q∈nms.zip obs,p.1≠q.1→∀b∈S p.1,b∉S q.1)→(∀p∈nms.zip obs,∀b∈S p.1,b<w.heap.size)→
  Calls P f args'.toArray w fun e w'=>∃r' M' ρ' S',e=.returned r'∧XPost R ρ M S w (nms.zip obs) d (nms.zip obs'++newOb d nw) ρ' M' S' w'∧(nw=none→ρ' d=none)∧VRel ρ' M' r r'
theorem ObRel.named {n:Name} {T:List Nat} {ob:Ob A} (h:ObRel R ρ M w n T ob):∃x,ρ n=some x:=by
 cases ob with
 | box cs=>obtain⟨b,ty,cs',_,h1,_⟩:=h;exact⟨_,h1⟩
 | row sz es fz=>
  rcases h with⟨b,o,c,ty,cs',_,h1,_⟩|⟨_,_,b,o,h1⟩
  ·exact⟨_,h1⟩
  ·exact⟨_,h1⟩
 | abs x=>obtain⟨b,h1,_⟩:=h;exact⟨_,h1⟩
 | prow xs=>
  rcases h with⟨b,o,c,ty,cs',bs,Ss,h1,_⟩|⟨_,_,b,o,h1⟩
  ·exact⟨_,h1⟩
  ·exact⟨_,h1⟩
theorem Rel.xcore {w':World} {os os':List (Name×Ob A)} {d:Name} {ρ':Rho} {M':Mem} {S':Name→List Nat} (h:Rel R E st ρ M S a w) (X:XPost R ρ M S w os d os' ρ' M' S' w') {st':St A}
  (hg:∀n ob,st'.get n=some ob→(∃p∈os',p.1=n∧p.2=ob)∨((∀p∈os',p.1≠n)∧st.get n=some ob)) (htm:st'.tmps=st.tmps)
  (hfr:∀n g,(∀p,st'.objs[n]?=some p→p.1<g)→ρ' (n+1,g)=none) (hos:∀p∈os,st.get p.1=some p.2) (hcov:∀p∈os,∃q∈os',q.1=p.1) (hd:ρ d=none) (hd0:d.1≠0) :
  Rel R E st' ρ' M' (fun n=>if n∈os'.map (·.1) then S' n else S n) a w':=by
 have hle:ρ.le ρ':=fun n x hx=>by
  rw[X.rho n (fun e=>by subst e;rw[hd] at hx;cases hx)];exact hx
 have hin:∀{n:Name},(∃p∈os',p.1=n)→n∈os'.map (·.1):=fun {n} ⟨p,h1,h2⟩=>List.mem_map.2 ⟨p,h1,h2⟩
 have hout:∀{n:Name},(∀p∈os',p.1≠n)→n∉os'.map (·.1):=fun {n} h1 h2=>by
  obtain⟨p,h3,h4⟩:=List.mem_map.1 h2
  exact h1 p h3 h4
 have hold:∀{n:Name} {ob:Ob A},(∀p∈os',p.1≠n)→st.get n=some ob→∀b∈S n,∀q∈os,b∉S q.1:=fun {n ob} h1 h2 b hb q hq=>by
  obtain⟨q',h3,h4⟩:=hcov q hq
  exact h.disj n q.1 _ _ h2 (hos q hq) (fun e=>h1 q' h3 (h4.trans e.symm)) b hb
 exact {
  defers:=h.defers
  tmps:=by rw[htm];exact h.tmps.mono hle X.le
  mem:=X.mem
  objs:=fun n ob hn=>by
   rcases hg n ob hn with⟨p,h1,rfl,rfl⟩|⟨h1,h2⟩
   ·simp only[if_pos (hin ⟨p,h1,rfl⟩)]
    exact X.objs p h1
   ·simp only[if_neg (hout h1)]
    have hob:=h.objs n ob h2
    obtain⟨x,hx⟩:=hob.named
    refine hob.of_heap (X.rho n (fun e=>by subst e;rw[hd] at hx;cases hx)) hle X.le (fun b hb o=>?_) (fun b hb=>X.heap b (h.blt n ob h2 b hb) (hold h1 h2 b hb))
    have hlt:=h.blt n ob h2 b hb
    cases hm:M b o with
    | some v=>exact X.le _ _ _ hm
    | none=>
     cases hm':M' b o with
     | none=>rfl
     | some v=>
      rcases X.new b o v hm' with h3|h3|⟨q,h3,h4⟩
      ·rw[hm] at h3;cases h3
      ·omega
      ·exact absurd h4 (hold h1 h2 b hb q h3)
  disj:=fun n n' ob ob' hn hn' hne b=>by
   rcases hg n ob hn with⟨p,h1,rfl,rfl⟩|⟨h1,h2⟩<;>rcases hg n' ob' hn' with⟨p',h3,rfl,rfl⟩|⟨h3,h4⟩
   ·simp only[if_pos (hin ⟨p,h1,rfl⟩),if_pos (hin ⟨p',h3,rfl⟩)]
    exact X.disj p h1 p' h3 hne b
   ·simp only[if_pos (hin ⟨p,h1,rfl⟩),if_neg (hout h3)]
    intro hb hb'
    rcases X.own p h1 b hb with⟨q,h5,h6⟩|h5
    ·exact hold h3 h4 b hb' q h5 h6
    ·have:=h.blt n' ob' h4 b hb';omega
   ·simp only[if_neg (hout h1),if_pos (hin ⟨p',h3,rfl⟩)]
    intro hb hb'
    rcases X.own p' h3 b hb' with⟨q,h5,h6⟩|h5
    ·exact hold h1 h2 b hb q h5 h6
    ·have:=h.blt n ob h2 b hb;omega
   ·simp only[if_neg (hout h1),if_neg (hout h3)]
    exact h.disj n n' ob ob' h2 h4 hne b
  blt:=fun n ob hn b hb=>by
   rcases hg n ob hn with⟨p,h1,rfl,rfl⟩|⟨h1,h2⟩
   ·simp only[if_pos (hin ⟨p,h1,rfl⟩)] at hb
    exact X.blt p h1 b hb
   ·simp only[if_neg (hout h1)] at hb
    exact Nat.lt_of_lt_of_le (h.blt n ob h2 b hb) X.size
  own:=fun n ob hn b hb=>by
   rcases hg n ob hn with⟨p,h1,rfl,rfl⟩|⟨h1,h2⟩
   ·simp only[if_pos (hin ⟨p,h1,rfl⟩)] at hb
    rcases X.own p h1 b hb with⟨q,h5,h6⟩|h5
    ·exact h.own q.1 q.2 (hos q h5) b h6
    ·exact .inr (Nat.le_trans h.hsize h5)
   ·simp only[if_neg (hout h1)] at hb
    exact h.own n ob h2 b hb
  fresh:=hfr
  hsize:=Nat.le_trans h.hsize X.size
  keep:=fun b hb hb'=>(X.heap b (Nat.lt_of_lt_of_le hb h.hsize) (fun q hq hbq=>by
   rcases h.own q.1 q.2 (hos q hq) b hbq with h1|h1
   ·exact hb' h1
   ·omega)).trans (h.keep b hb hb')
  os:=X.hos.trans h.os
  tape:=X.tape.trans h.tape
  output:=X.output.trans h.output
  M0:=Mem.le_trans h.M0 X.le
  Mnew:=fun b o v hv=>by
   rcases X.new b o v hv with h1|h1|⟨q,h1,h2⟩
   ·exact h.Mnew b o v h1
   ·exact .inr (.inl (Nat.le_trans h.hsize h1))
   ·rcases h.own q.1 q.2 (hos q h1) b h2 with h3|h3
    ·exact .inr (.inr h3)
    ·exact .inr (.inl h3)
  ρ0:=fun k x hx=>(X.rho _ (fun e=>hd0 (by rw[←e]))).trans (h.ρ0 k x hx)}
def setObs (st:St A) (l:List (Name×Option (Ob A))):St A:=l.foldl (fun s x=>s.setOb x.1 x.2) st
theorem setObs_append (st:St A) (l l':List (Name×Option (Ob A))):setObs st (l++l')=setObs (setObs st l) l':=by simp[setObs]
theorem setObs_get:∀{l:List (Name×Ob A)} {st:St A},(∀p∈l,∃ob,st.get p.1=some ob)→(l.map (·.1)).Nodup→∀n ob,(setObs st (l.map fun p=>(p.1,some p.2))).get n=some ob→
  (∃p∈l,p.1=n∧p.2=ob)∨((∀p∈l,p.1≠n)∧st.get n=some ob)
 | [],st,_,_,n,ob,h=>.inr ⟨(fun _ h=>by cases h),h⟩
 | p::r,st,hl,hnd,n,ob,h=>by
  obtain⟨ob0,h0⟩:=hl p List.mem_cons_self
  rw[List.map_cons,List.nodup_cons] at hnd
  have hl':∀q∈r,∃ob,(st.setOb p.1 (some p.2)).get q.1=some ob:=fun q hq=>by
   obtain⟨ob1,h1⟩:=hl q (List.mem_cons_of_mem _ hq)
   exact⟨ob1,St.get_setOb_ne h0 h1 (fun e=>hnd.1 (List.mem_map.2 ⟨q,hq,e⟩)) _⟩
  rcases setObs_get (st:=st.setOb p.1 (some p.2)) hl' hnd.2 n ob h with⟨q,h1,h2,h3⟩|⟨h1,h2⟩
  ·exact .inl ⟨q,List.mem_cons_of_mem _ h1,h2,h3⟩
  ·rcases St.get_setOb_live h0 _ h2 with⟨rfl,h3⟩|⟨h3,h4⟩
   ·exact .inl ⟨p,List.mem_cons_self,rfl,Option.some.inj h3⟩
   ·refine .inr ⟨fun q hq=>?_,h4⟩
    rcases List.mem_cons.1 hq with rfl|hq
    ·exact fun e=>h3 e.symm
    ·exact h1 q hq
theorem setObs_tmps:∀{l:List (Name×Option (Ob A))} {st:St A},(setObs st l).tmps=st.tmps
 | [],_=>rfl
 | p::r,st=>(setObs_tmps (l:=r)).trans (St.tmps_setOb _ _)
theorem setObs_slot {s g:Nat}:∀{l:List (Name×Ob A)} {st:St A} {o₀:Option (Ob A)},(∀p∈l,∃ob,st.get p.1=some ob)→(l.map (·.1)).Nodup→st.objs[s]?=some (g,o₀)→
  ∃o₁,(setObs st (l.map fun p=>(p.1,some p.2))).objs[s]?=some (g,o₁)
 | [],_,o₀,_,_,h=>⟨o₀,h⟩
 | p::r,st,o₀,hl,hnd,h=>by
  obtain⟨ob0,h0⟩:=hl p List.mem_cons_self
  rw[List.map_cons,List.nodup_cons] at hnd
  have hl':∀q∈r,∃ob,(st.setOb p.1 (some p.2)).get q.1=some ob:=fun q hq=>by
   obtain⟨ob1,h1⟩:=hl q (List.mem_cons_of_mem _ hq)
   exact⟨ob1,St.get_setOb_ne h0 h1 (fun e=>hnd.1 (List.mem_map.2 ⟨q,hq,e⟩)) _⟩
  have hs:∃o₁,(st.setOb p.1 (some p.2)).objs[s]?=some (g,o₁):=by
   obtain⟨⟨n1,n2⟩,pv⟩:=p
   cases n1 with
   | zero=>exact⟨o₀,h⟩
   | succ m=>
    have hm:=St.get_slot_gen h0
    simp only[St.setOb,lset_eq]
    by_cases e:m=s
    ·subst e
     rw[h] at hm;cases hm
     exact⟨some pv,List.getElem?_set_self (List.getElem?_eq_some_iff.1 h).1⟩
    ·exact⟨o₀,by rw[List.getElem?_set_ne e];exact h⟩
  obtain⟨o₁,hs⟩:=hs
  exact setObs_slot (l:=r) (st:=st.setOb p.1 (some p.2)) (o₀:=o₁) hl' hnd.2 hs
theorem setObs_fresh {ρ:Rho}:∀{l:List (Name×Ob A)} {st:St A},(∀p∈l,∃ob,st.get p.1=some ob)→(l.map (·.1)).Nodup→(∀n g,(∀p,st.objs[n]?=some p→p.1<g)→ρ (n+1,g)=none)→
  ∀n g,(∀p,(setObs st (l.map fun p=>(p.1,some p.2))).objs[n]?=some p→p.1<g)→ρ (n+1,g)=none
 | [],_,_,_,h=>h
 | p::r,st,hl,hnd,h=>by
  obtain⟨ob0,h0⟩:=hl p List.mem_cons_self
  rw[List.map_cons,List.nodup_cons] at hnd
  have hl':∀q∈r,∃ob,(st.setOb p.1 (some p.2)).get q.1=some ob:=fun q hq=>by
   obtain⟨ob1,h1⟩:=hl q (List.mem_cons_of_mem _ hq)
   exact⟨ob1,St.get_setOb_ne h0 h1 (fun e=>hnd.1 (List.mem_map.2 ⟨q,hq,e⟩)) _⟩
  exact setObs_fresh (st:=st.setOb p.1 (some p.2)) hl' hnd.2 (St.fresh_setOb h0 _ h)
theorem Rel.xcall {w':World} {nms:List Name} {obs obs':List (Ob A)} {d:Name} {ρ':Rho} {M':Mem} {S':Name→List Nat} (h:Rel R E st ρ M S a w) (hlen:obs'.length=obs.length) (hl2:nms.length=obs.length)
  (hnd:nms.Nodup) (hos:∀p∈nms.zip obs,st.get p.1=some p.2) (hd:ρ d=none) (hd0:d.1≠0) (X:XPost R ρ M S w (nms.zip obs) d (nms.zip obs') ρ' M' S' w') (hρ:ρ' d=none) :
  ∃S'',Rel R E (setObs st ((nms.zip obs').map fun p=>(p.1,some p.2))) ρ' M' S'' a w':=by
 have hn1:(nms.zip obs).map (·.1)=nms:=List.map_fst_zip (by omega)
 have hn2:(nms.zip obs').map (·.1)=nms:=List.map_fst_zip (by omega)
 have hlive:∀p∈nms.zip obs',∃ob,st.get p.1=some ob:=fun p hp=>by
  have:p.1∈(nms.zip obs).map (·.1):=by rw[hn1,←hn2];exact List.mem_map.2 ⟨p,hp,rfl⟩
  obtain⟨q,h1,h2⟩:=List.mem_map.1 this
  exact⟨q.2,by rw[←h2];exact hos q h1⟩
 have hnd':((nms.zip obs').map (·.1)).Nodup:=by rw[hn2];exact hnd
 have hfr:∀n g,(∀p,st.objs[n]?=some p→p.1<g)→ρ' (n+1,g)=none:=fun n g hg=>by
  by_cases e:(n+1,g)=d
  ·rw[e];exact hρ
  ·rw[X.rho _ e];exact h.fresh n g hg
 refine⟨_,h.xcore X (setObs_get hlive hnd') setObs_tmps (setObs_fresh hlive hnd' hfr) hos (fun p hp=>?_) hd hd0⟩
 have:p.1∈(nms.zip obs').map (·.1):=by rw[hn2,←hn1];exact List.mem_map.2 ⟨p,hp,rfl⟩
 obtain⟨q,h1,h2⟩:=List.mem_map.1 this
 exact⟨q,h1,h2⟩
theorem Rel.xcallNew {w':World} {nms:List Name} {obs obs':List (Ob A)} {s g₀ g:Nat} {o₀:Option (Ob A)} {nw:Ob A} {ρ':Rho} {M':Mem} {S':Name→List Nat} (h:Rel R E st ρ M S a w) (hlen:obs'.length=obs.length) (hl2:nms.length=obs.length)
  (hnd:nms.Nodup) (hos:∀p∈nms.zip obs,st.get p.1=some p.2) (hs:st.objs[s]?=some (g₀,o₀)) (hg:g₀<g)
  (X:XPost R ρ M S w (nms.zip obs) (s+1,g) (nms.zip obs'++[((s+1,g),nw)]) ρ' M' S' w') :
  ∃S'',Rel R E (setObs st ((nms.zip obs'++[((s+1,g),nw)]).map fun p=>(p.1,some p.2))) ρ' M' S'' a w':=by
 have hd:ρ (s+1,g)=none:=h.fresh s g fun p hp=>by rw[hs] at hp;cases hp;exact hg
 have hn1:(nms.zip obs).map (·.1)=nms:=List.map_fst_zip (by omega)
 have hn2:(nms.zip obs').map (·.1)=nms:=List.map_fst_zip (by omega)
 have hlive:∀p∈nms.zip obs',∃ob,st.get p.1=some ob:=fun p hp=>by
  have:p.1∈(nms.zip obs).map (·.1):=by rw[hn1,←hn2];exact List.mem_map.2 ⟨p,hp,rfl⟩
  obtain⟨q,h1,h2⟩:=List.mem_map.1 this
  exact⟨q.2,by rw[←h2];exact hos q h1⟩
 have hnd':((nms.zip obs').map (·.1)).Nodup:=by rw[hn2];exact hnd
 obtain⟨o₁,hs1⟩:=setObs_slot (l:=nms.zip obs') (o₀:=o₀) hlive hnd' hs
 have hfr:∀n g',(∀p,(setObs st ((nms.zip obs').map fun p=>(p.1,some p.2))).objs[n]?=some p→p.1<g')→ρ (n+1,g')=none:=setObs_fresh hlive hnd' h.fresh
 have hcov:∀p∈nms.zip obs,∃q∈nms.zip obs'++[((s+1,g),nw)],q.1=p.1:=fun p hp=>by
  have:p.1∈(nms.zip obs').map (·.1):=by rw[hn2,←hn1];exact List.mem_map.2 ⟨p,hp,rfl⟩
  obtain⟨q,h1,h2⟩:=List.mem_map.1 this
  exact⟨q,List.mem_append_left _ h1,h2⟩
 rw[List.map_append,setObs_append]
 have hset:setObs (setObs st ((nms.zip obs').map fun p=>(p.1,some p.2))) ([((s+1,g),nw)].map fun p=>(p.1,some p.2))=(setObs st ((nms.zip obs').map fun p=>(p.1,some p.2))).setOb (s+1,g) (some nw):=rfl
 rw[hset]
 refine⟨_,h.xcore X (fun n ob hn=>?_) ((St.tmps_setOb _ _).trans setObs_tmps) (fun n g' hg'=>?_) hos hcov hd (by simp)⟩
 ·rw[St.get_setOb_slot hs1] at hn
  by_cases h1:n.1=s+1
  ·rw[if_pos h1] at hn
   by_cases h2:n.2=g
   ·rw[if_pos h2] at hn
    exact .inl ⟨((s+1,g),nw),by simp,(Prod.ext h1 h2).symm,Option.some.inj hn⟩
   ·rw[if_neg h2] at hn;cases hn
  ·rw[if_neg h1] at hn
   rcases setObs_get hlive hnd' n ob hn with⟨p,q1,q2,q3⟩|⟨q1,q2⟩
   ·exact .inl ⟨p,List.mem_append_left _ q1,q2,q3⟩
   ·refine .inr ⟨fun p hp=>?_,q2⟩
    rcases List.mem_append.1 hp with hp|hp
    ·exact q1 p hp
    ·simp only[List.mem_singleton] at hp
     subst hp
     exact fun e=>h1 (by rw[←e])
 ·by_cases e:n=s
  ·subst e
   have hlt:g<g':=by
    refine hg' (g,some nw) ?_
    simp only[St.setOb,lset_eq]
    rw[List.getElem?_set_self (List.getElem?_eq_some_iff.1 hs1).1]
   rw[X.rho _ (fun e=>by cases e;omega)]
   refine hfr n g' fun p hp=>?_
   rw[hs1] at hp;cases hp
   omega
  ·rw[X.rho _ (fun e'=>e (by cases e';rfl))]
   refine hfr n g' fun p hp=>?_
   refine hg' p ?_
   simp only[St.setOb,lset_eq]
   rw[List.getElem?_set_ne (Ne.symm e)];exact hp
end Go.Vm
namespace Go.Vm
open Go
section
variable {ρ ρ':Rho} {M:Mem}
theorem PureV.any {v:V} (h:PureV v) {v':Value} (hv:VRel ρ M v v'):VRel ρ' M v v':=
 (h ρ M v' hv).mono (fun _ _ e=>by cases e) (Mem.le_refl _)
def renC1 (φ:Name→Name):V→V
 | .ref n o=>.ref (φ n) o
 | .rpt n z i k=>.rpt (φ n) z i k
 | .rsl n z i l=>.rsl (φ n) z i l
 | .asl n z o l c=>.asl (φ n) z o l c
 | .sub n j o=>.sub (φ n) j o
 | v=>v
theorem renC1_up {m:Nat} {φ:Name→Name} {ρ2:Rho} (h2:∀n,okN m n→ρ2 (φ n)=ρ n) {v:V} {v':Value} (hv:VRel ρ M v v') (hk:okC m v):VRel ρ2 M (renC1 φ v) v':=by
 cases hv with
 | ref e=>exact .ref ((h2 _ hk).trans e)
 | rpt e=>exact .rpt ((h2 _ hk).trans e)
 | rsl e a b=>exact .rsl ((h2 _ hk).trans e) a b
 | asl e a=>exact .asl ((h2 _ hk).trans e) a
 | rsl0=>exact .rsl0
 | asl0=>exact .asl0
 | undef=>exact .undef _
 | int=>exact .int _ _
 | bool=>exact .bool _
 | nilp=>exact .nilp
 | nils=>exact .nils
 | lst0=>exact .lst0
 | fn f=>exact .fn f
 | lst vals a b c d=>exact(PureV.lst hk).any (.lst vals a b c d)
 | lpt vals a b c=>exact(PureV.lpt hk).any (.lpt vals a b c)
 | sub e e2=>exact .sub ((h2 _ hk).trans e) e2
 | agg=>exact hk.elim
 | tup=>exact hk.elim
theorem renC1_down {m:Nat} {φ:Name→Name} {ρ2:Rho} (h2:∀n,okN m n→ρ2 (φ n)=ρ n) {v:V} {v':Value} (hv:VRel ρ2 M (renC1 φ v) v') (hk:okC m v):VRel ρ M v v':=by
 cases v with
 | ref n o=>cases hv with|ref e=>exact .ref ((h2 _ hk).symm.trans e)
 | rpt n z i k=>cases hv with|rpt e=>exact .rpt ((h2 _ hk).symm.trans e)
 | rsl n z i l=>
  cases hv with
  | rsl e a b=>exact .rsl ((h2 _ hk).symm.trans e) a b
  | rsl0=>exact .rsl0
 | asl n z o l c=>
  cases hv with
  | asl e a=>exact .asl ((h2 _ hk).symm.trans e) a
  | asl0=>exact .asl0
 | sub n j o=>cases hv with|sub e e2=>exact .sub ((h2 _ hk).symm.trans e) e2
 | undef=>exact .undef _
 | int k n=>exact(PureV.int k n).any hv
 | bool b=>exact(PureV.bool b).any hv
 | nilp=>exact PureV.nilp.any hv
 | nils=>exact PureV.nils.any hv
 | fn f=>exact(PureV.fn f).any hv
 | lst z es=>exact(PureV.lst hk).any hv
 | lpt z es i k=>exact(PureV.lpt hk).any hv
 | agg=>exact hk.elim
 | tup=>exact hk.elim
theorem renCs1_up {m:Nat} {φ:Name→Name} {ρ2:Rho} (h2:∀n,okN m n→ρ2 (φ n)=ρ n):∀{l:List V} {l':List Value},VsRel ρ M l l'→(∀v∈l,okC m v)→VsRel ρ2 M (l.map (renC1 φ)) l'
 | [],l',h,_=>by rw[h.nil_inv];exact .nil
 | v::r,l',h,hk=>by
  obtain⟨v',r',rfl,h1,h3⟩:=h.uncons
  exact .cons (renC1_up h2 h1 (hk v List.mem_cons_self)) (renCs1_up h2 h3 fun v hv=>hk v (List.mem_cons_of_mem _ hv))
theorem renCs1_down {m:Nat} {φ:Name→Name} {ρ2:Rho} (h2:∀n,okN m n→ρ2 (φ n)=ρ n):∀{l:List V} {l':List Value},VsRel ρ2 M (l.map (renC1 φ)) l'→(∀v∈l,okC m v)→VsRel ρ M l l'
 | [],l',h,_=>by rw[VsRel.nil_inv h];exact .nil
 | v::r,l',h,hk=>by
  rw[List.map_cons] at h
  obtain⟨v',r',rfl,h1,h3⟩:=h.uncons
  exact .cons (renC1_down h2 h1 (hk v List.mem_cons_self)) (renCs1_down h2 h3 fun v hv=>hk v (List.mem_cons_of_mem _ hv))
def nameAt (l:List Name) (n:Name):Name:=match n with
 | (0,j)=>match lget l j with
  | some m=>m
  | none=>n
 | n=>n
theorem nameAt_get {l:List Name} {j:Nat} {n:Name} (h:l[j]?=some n):nameAt l (0,j)=n:=by
 simp[nameAt,lget_eq,h]
end
variable {A:Type} {R:Rep A} {E:Env} {st:St A} {ρ:Rho} {M:Mem} {S:Name→List Nat} {a:Act} {w:World}
theorem ObRel.rename0 {n n':Name} {ρ':Rho} {B:List Nat} {ob:Ob A} (h:ObRel R ρ M w n B ob) (hk:okOb 0 ob) (hn:ρ' n'=ρ n):ObRel R ρ' M w n' B ob:=by
 cases ob with
 | box cs=>
  obtain⟨b,T,cs',e1,e2,e3,e4,e5⟩:=h
  exact⟨b,T,cs',e1,hn.trans e2,e3,e4.pure hk,e5⟩
 | row z es f=>
  rcases h with⟨b,o,c,T,cs',e1,e2,e3,e4,e5,e6,e7,e8⟩|⟨q1,q2,b,o,q3⟩
  case inr=>exact .inr ⟨q1,q2,b,o,hn.trans q3⟩
  refine .inl ⟨b,o,c,T,cs',e1,hn.trans e2,e3,e4,e5,e6,fun i k e v he hv=>?_,e8⟩
  obtain⟨v',q1,q2⟩:=e7 i k e v he hv
  exact⟨v',q1,(hk e (List.mem_of_getElem? he) v (List.mem_of_getElem? hv)).any q2⟩
 | abs x=>
  obtain⟨b,e1,e2⟩:=h
  exact⟨b,hn.trans e1,e2⟩
 | prow xs=>
  rcases h with⟨b,o,c,T,cs',bs,Ss,e1,e2⟩|⟨q1,q2,b,o,q3⟩
  ·exact .inl ⟨b,o,c,T,cs',bs,Ss,hn.trans e1,e2⟩
  ·exact .inr ⟨q1,q2,b,o,hn.trans q3⟩
structure Hg (A:Type) where
 s:Nat
 g:Nat
 ob:Ob A
 x:Nat×Nat×Nat
 B:List Nat
def Hg.nm (h:Hg A):Name:=(h.s+1,h.g+1)
theorem Rel.newAll:∀{l:List (Hg A)} {st:St A} {ρ:Rho} {S:Name→List Nat},Rel R E st ρ M S a w→
  (∀h∈l,okOb 0 h.ob∧∃(ρc:Rho) (nc:Name),ρc nc=some h.x∧ObRel R ρc M w nc h.B h.ob)→(∀h∈l,∃o,st.objs[h.s]?=some (h.g,o))→
  (∀h∈l,∀k∈h.B,k<w.heap.size∧(k∈E.S0∨E.w0.heap.size≤k)∧∀n ob,st.get n=some ob→k∉S n)→
  l.Pairwise (fun h h'=>h.s≠h'.s∧∀k∈h.B,k∉h'.B)→
  ∃ρ' S',Rel R E (l.foldl (fun st h=>st.setOb h.nm (some h.ob)) st) ρ' M S' a w∧ρ.le ρ'∧(∀h∈l,ρ' h.nm=some h.x)∧
   ∀n ob,st.get n=some ob→(∀h∈l,n.1≠h.s+1)→(l.foldl (fun st h=>st.setOb h.nm (some h.ob)) st).get n=some ob∧S' n=S n
 | [],st,ρ,S,h,_,_,_,_=>⟨ρ,S,h,Rho.le_refl _,(fun _ hh=>by cases hh),fun _ _ hn _=>⟨hn,rfl⟩⟩
 | p::l,st,ρ,S,h,h1,h2,h3,h4=>by
  obtain⟨ok,ρc,nc,hx,hob⟩:=h1 p List.mem_cons_self
  obtain⟨o,ho⟩:=h2 p List.mem_cons_self
  have hB:=h3 p List.mem_cons_self
  rw[List.pairwise_cons] at h4
  have hle:=Rho.le_new h ho p.x
  have hnew:=h.new (w':=w) (M':=M) ho (ob:=p.ob) (T:=p.B) (x:=p.x) (hob.rename0 ok (by simp[hx])) (fun b hb=>⟨(hB b hb).1,(hB b hb).2.1,fun n ob hn _=>(hB b hb).2.2 n ob hn⟩) (Mem.le_refl _)
   (fun _ _ _ hv=>.inl hv) (fun _ _ _ _ _ _ _=>rfl) h.mem (fun _ _ _ _ _ _=>rfl) (fun _ _ _=>rfl) (Nat.le_refl _) rfl rfl rfl
  have hkey:∀n ob,(st.setOb (p.s+1,p.g+1) (some p.ob)).get n=some ob→n=(p.s+1,p.g+1)∨(n.1≠p.s+1∧st.get n=some ob):=fun n ob hn=>by
   rw[St.get_setOb_slot ho] at hn
   by_cases e1:n.1=p.s+1
   ·rw[if_pos e1] at hn
    by_cases e2:n.2=p.g+1
    ·exact .inl (Prod.ext e1 e2)
    ·rw[if_neg e2] at hn;cases hn
   ·rw[if_neg e1] at hn;exact .inr ⟨e1,hn⟩
  obtain⟨ρ',S',k1,k2,k3,k4⟩:=Rel.newAll (l:=l) hnew (fun q hq=>h1 q (List.mem_cons_of_mem _ hq)) (fun q hq=>by
    obtain⟨o',ho'⟩:=h2 q (List.mem_cons_of_mem _ hq)
    refine⟨o',?_⟩
    simp only[St.setOb,lset_eq]
    rw[List.getElem?_set_ne (h4.1 q hq).1];exact ho')
   (fun q hq k hk=>by
    obtain⟨q1,q2,q3⟩:=h3 q (List.mem_cons_of_mem _ hq) k hk
    refine⟨q1,q2,fun n ob hn=>?_⟩
    rcases hkey n ob hn with rfl|⟨e1,e2⟩
    ·simp only[if_true];exact fun hc=>(h4.1 q hq).2 k hc hk
    ·have:n≠(p.s+1,p.g+1):=fun e=>e1 (by rw[e])
     simp only[if_neg this];exact q3 n ob e2) h4.2
  refine⟨ρ',S',k1,Rho.le_trans hle k2,fun q hq=>?_,fun n ob hn hs=>?_⟩
  ·rcases List.mem_cons.1 hq with rfl|hq
   ·exact k2 _ _ (by simp[Hg.nm])
   ·exact k3 q hq
  ·have hns:=hs p List.mem_cons_self
   have hne:n≠(p.s+1,p.g+1):=fun e=>hns (by rw[e])
   have:=k4 n ob (by rw[St.get_setOb_slot ho,if_neg hns];exact hn) fun q hq=>hs q (List.mem_cons_of_mem _ hq)
   refine⟨this.1,this.2.trans ?_⟩
   simp only[if_neg hne]
inductive ObLe:Ob A→Ob A→Prop
 | refl (o:Ob A):ObLe o o
 | trim (z:Nat) (es:List (List V)) (k:Nat):ObLe (.row z es false) (.row z (es.take k) false)
theorem ObLe.rel {n:Name} {B:List Nat} {o o':Ob A} (h:ObLe o o') (hr:ObRel R ρ M w n B o):ObRel R ρ M w n B o':=by
 cases h with
 | refl=>exact hr
 | trim z es k=>
  rcases hr with⟨b,o,c,T,cs',e1,e2,e3,e4,e5,e6,e7,e8⟩|⟨q1,q2,b,o,q3⟩
  case inr=>exact .inr ⟨by rw[q1];simp,q2,b,o,q3⟩
  refine .inl ⟨b,o,c,T,cs',e1,e2,e3,e4,Nat.le_trans (Nat.mul_le_mul_right _ (by simp;omega)) e5,fun e he=>e6 e (List.mem_of_mem_take he),fun i k' e v he hv=>?_,fun j hj=>?_⟩
  ·rw[List.getElem?_take] at he
   split at he
   ·exact e7 i k' e v he hv
   ·cases he
  ·have:=(e8 j hj).1;cases this
inductive ObsLe:List (Ob A)→List (Ob A)→Prop
 | nil:ObsLe [] []
 | cons {o o':Ob A} {l l':List (Ob A)}:ObLe o o'→ObsLe l l'→ObsLe (o::l) (o'::l')
theorem ObsLe.get:∀{l l':List (Ob A)},ObsLe l l'→l.length=l'.length∧∀(i:Nat) (o':Ob A),l'[i]?=some o'→∃o,l[i]?=some o∧ObLe o o'
 | _,_,.nil=>⟨rfl,fun i o h=>by simp at h⟩
 | _,_,.cons h1 h2=>by
  obtain⟨q1,q2⟩:=h2.get
  refine⟨by simp[q1],fun i o' hi=>?_⟩
  cases i with
  | zero=>simp at hi;subst hi;exact⟨_,rfl,h1⟩
  | succ i=>exact q2 i o' (by simpa using hi)
theorem Rel.killAll:∀{l:List Name} {st:St A},Rel R E st ρ M S a w→(∀m∈l,∃ob,st.get m=some ob)→l.Nodup→Rel R E (setObs st (l.map fun m=>(m,none))) ρ M S a w∧
  (∀n ob,st.get n=some ob→n∉l→(setObs st (l.map fun m=>(m,none))).get n=some ob)∧(∀n ob,(setObs st (l.map fun m=>(m,none))).get n=some ob→n∉l∧st.get n=some ob)
 | [],st,h,_,_=>⟨h,fun _ _ h _=>h,fun _ _ h=>⟨by simp,h⟩⟩
 | m::r,st,h,hl,hnd=>by
  obtain⟨ob,hm⟩:=hl m List.mem_cons_self
  rw[List.nodup_cons] at hnd
  obtain⟨k1,k2,k3⟩:=Rel.killAll (l:=r) (st:=st.setOb m none) (h.kill hm) (fun m' hm'=>by
   obtain⟨ob',h'⟩:=hl m' (List.mem_cons_of_mem _ hm')
   exact⟨ob',St.get_setOb_ne hm h' (fun e=>hnd.1 (by rw[←e];exact hm')) none⟩) hnd.2
  refine⟨k1,fun n ob' hn hnot=>?_,fun n ob' hn=>?_⟩
  ·rw[List.mem_cons,not_or] at hnot
   exact k2 n ob' (St.get_setOb_ne hm hn hnot.1 none) hnot.2
  ·obtain⟨q1,q2⟩:=k3 n ob' hn
   rcases St.get_setOb_live hm none q2 with⟨_,e⟩|⟨e1,e2⟩
   ·cases e
   ·exact⟨by rw[List.mem_cons,not_or];exact⟨e1,q1⟩,e2⟩
variable [Deep A]
def opened (n:Name) (x:A) (sl:List (Nat×Nat)):List (Name×Option (Ob A)):=
 (n,some (.box (List.replicate (Deep.op x).1.length .undef)))::((sl.zip (Deep.op x).2).map fun p=>((p.1.1+1,p.1.2+1),some p.2)) ++
  [(n,some (.box ((Deep.op x).1.map (renC1 (nameAt (sl.map fun p=>(p.1+1,p.2+1)))))))]
theorem Rel.open (hR:RepOk R) (h:Rel R E st ρ M S a w) {n:Name} {x:A} (hn:st.get n=some (.abs x)) {sl:List (Nat×Nat)} (hl:sl.length=(Deep.op x).2.length)
  (hs:∀p∈sl,∃o,st.objs[p.1]?=some (p.2,o)) (hnd:sl.Pairwise fun p q=>p.1≠q.1) (hns:∀p∈sl,n.1≠p.1+1) :
  ∃ρ' S',ρ.le ρ'∧Rel R E (setObs st (opened n x sl)) ρ' M S' a w:=by
 obtain⟨b,e1,e2⟩:=h.objs n _ hn
 obtain⟨ρc,Ss,T,cs',o⟩:=hR.opens e2
 have hmemS:∀i,i<(Deep.op x).2.length→∀k∈Ss i,k∈S n:=fun i hi k hk=>by
  rw[o.all];exact List.mem_cons_of_mem _ (List.mem_flatten.2 ⟨Ss i,List.mem_map.2 ⟨i,List.mem_range.2 hi,rfl⟩,hk⟩)
 have hbS:b∈S n:=by rw[o.all];exact List.mem_cons_self
 have hother:∀k∈S n,∀n' ob1,st.get n'=some ob1→n'≠n→k∉S n':=fun k hk n' ob1 h1 h2=>h.disj n n' _ _ hn h1 (Ne.symm h2) k hk
 have hbox:ObRel R ρ M w n [b] (.box (List.replicate (Deep.op x).1.length .undef)):=⟨b,T,cs',rfl,by rw[List.length_replicate,←hR.size];exact e1,o.heap,⟨by simp[o.rel.1],fun i v v' hv _=>by
  rw[List.getElem?_replicate] at hv
  split at hv
  ·cases hv;exact .undef _
  ·cases hv⟩,o.mem⟩
 have h1:=h.reob hn hbox fun k hk=>by
  simp at hk;subst hk
  exact⟨h.blt n _ hn _ hbS,h.own n _ hn _ hbS,hother _ hbS⟩
 have hn1:(st.setOb n (some (Ob.box (List.replicate (Deep.op x).1.length .undef)))).get n=some (.box (List.replicate (Deep.op x).1.length .undef)):=St.get_setOb_self hn _
 have hloc:∀i,i<(Deep.op x).2.length→∃y,ρc (0,i)=some y:=fun i hi=>(o.inner i _ (List.getElem?_eq_getElem hi)).named
 let hg:Nat→Hg A:=fun i=>⟨(sl.getD i (0,0)).1,(sl.getD i (0,0)).2,((Deep.op x).2[i]?).getD (.box []),(ρc (0,i)).getD (0,0,0),Ss i⟩
 let L:List (Hg A):=(List.range (Deep.op x).2.length).map hg
 have hL:∀q∈L,∃i,i<(Deep.op x).2.length∧q=hg i:=fun q hq=>by
  obtain⟨i,hi,rfl⟩:=List.mem_map.1 hq
  exact⟨i,List.mem_range.1 hi,rfl⟩
 have hob:∀i,(hi:i<(Deep.op x).2.length)→(hg i).ob=(Deep.op x).2[i]:=fun i hi=>by
  simp[hg,List.getElem?_eq_getElem hi]
 have hsl:∀i,(hi:i<(Deep.op x).2.length)→sl[i]?=some ((hg i).s,(hg i).g):=fun i hi=>by
  have:i<sl.length:=by omega
  simp[hg,this]
 have hkey:∀n' ob1,(st.setOb n (some (Ob.box (List.replicate (Deep.op x).1.length .undef)))).get n'=some ob1→n'=n∨(n'≠n∧st.get n'=some ob1):=fun n' ob1 h'=>by
  rcases St.get_setOb_live hn _ h' with⟨q,_⟩|q
  ·exact .inl q
  ·exact .inr q
 obtain⟨ρ',S',k1,k2,k3,k4⟩:=Rel.newAll (l:=L) h1 (fun q hq=>by
   obtain⟨i,hi,rfl⟩:=hL q hq
   rw[hob i hi]
   refine⟨o.obs i _ (List.getElem?_eq_getElem hi),ρc,(0,i),?_,o.inner i _ (List.getElem?_eq_getElem hi)⟩
   obtain⟨y,hy⟩:=hloc i hi
   simp[hg,hy])
  (fun q hq=>by
   obtain⟨i,hi,rfl⟩:=hL q hq
   have hm:=List.mem_of_getElem? (hsl i hi)
   obtain⟨o',ho'⟩:=hs _ hm
   obtain⟨n1,gn⟩:=n
   cases n1 with
   | zero=>exact⟨o',ho'⟩
   | succ k=>
    have hne:=hns _ hm
    refine⟨o',?_⟩
    simp only[St.setOb,lset_eq]
    rw[List.getElem?_set_ne (fun e=>hne (by simp[e]))];exact ho')
  (fun q hq k hk=>by
   obtain⟨i,hi,rfl⟩:=hL q hq
   have hkS:=hmemS i hi k hk
   refine⟨h.blt n _ hn k hkS,h.own n _ hn k hkS,fun n' ob1 h'=>?_⟩
   rcases hkey n' ob1 h' with rfl|⟨q1,q2⟩
   ·simp only[if_true,List.mem_singleton]
    exact fun e=>o.out i hi (by rw[←e];exact hk)
   ·simp only[if_neg q1];exact hother k hkS n' ob1 q2 q1)
  (by
   rw[List.pairwise_map]
   refine List.Pairwise.imp_of_mem ?_ (List.pairwise_lt_range (n:=(Deep.op x).2.length))
   intro i j hi hj hij
   have hi:=List.mem_range.1 hi
   have hj:=List.mem_range.1 hj
   refine⟨?_,o.apart i j hi hj (by omega)⟩
   have q1:=hsl i hi
   have q2:=hsl j hj
   obtain⟨hi',q1⟩:=List.getElem?_eq_some_iff.1 q1
   obtain⟨hj',q2⟩:=List.getElem?_eq_some_iff.1 q2
   have:=(List.pairwise_iff_getElem.1 hnd) i j hi' hj' hij
   rw[q1,q2] at this
   exact this)
 obtain⟨q1,q2⟩:=k4 n _ hn1 fun q hq=>by
  obtain⟨i,hi,rfl⟩:=hL q hq
  exact hns _ (List.mem_of_getElem? (hsl i hi))
 simp only[if_true] at q2
 have hnm:∀i,i<(Deep.op x).2.length→nameAt (sl.map fun p=>(p.1+1,p.2+1)) (0,i)=(hg i).nm:=fun i hi=>by
  refine nameAt_get ?_
  rw[List.getElem?_map,hsl i hi];rfl
 have hρ:∀m,okN (Deep.op x).2.length m→ρ' (nameAt (sl.map fun p=>(p.1+1,p.2+1)) m)=ρc m:=fun m hm=>by
  obtain⟨m1,i⟩:=m
  obtain⟨h0,hi⟩:=hm
  simp only at h0 hi
  subst h0
  rw[hnm i hi,k3 (hg i) (List.mem_map.2 ⟨i,List.mem_range.2 hi,rfl⟩)]
  obtain⟨y,hy⟩:=hloc i hi
  simp[hg,hy]
 have hbox2:ObRel R ρ' M w n [b] (.box ((Deep.op x).1.map (renC1 (nameAt (sl.map fun p=>(p.1+1,p.2+1)))))):=
  ⟨b,T,cs',rfl,by rw[List.length_map,←hR.size];exact k2 _ _ e1,o.heap,renCs1_up hρ o.rel o.cells,o.mem⟩
 have hfin:=k1.reob q1 hbox2 fun k hk=>by
  have hk':k∈S' n:=by rw[q2];exact hk
  exact⟨k1.blt n _ q1 k hk',k1.own n _ q1 k hk',fun n' ob1 h1 h2=>k1.disj n n' _ _ q1 h1 (Ne.symm h2) k hk'⟩
 refine⟨ρ',(fun k=>if k=n then[b] else S' k),k2,?_⟩
 have hst:setObs st (opened n x sl)=(L.foldl (fun st h=>st.setOb h.nm (some h.ob)) (st.setOb n (some (Ob.box (List.replicate (Deep.op x).1.length .undef))))).setOb n (some (.box ((Deep.op x).1.map (renC1 (nameAt (sl.map fun p=>(p.1+1,p.2+1))))))):=by
  unfold opened
  rw[List.cons_append,setObs,List.foldl_cons,List.foldl_append]
  have hzip:((sl.zip (Deep.op x).2).map fun p=>((p.1.1+1,p.1.2+1),some p.2))=L.map fun h=>(h.nm,some h.ob):=by
   refine List.ext_getElem? fun i=>?_
   simp only[List.getElem?_map,L]
   by_cases hi:i<(Deep.op x).2.length
   ·have hz:(sl.zip (Deep.op x).2)[i]?=some (((hg i).s,(hg i).g),(Deep.op x).2[i]):=List.getElem?_zip_eq_some.2 ⟨hsl i hi,List.getElem?_eq_getElem hi⟩
    rw[List.getElem?_range hi,hz]
    simp only[Option.map_some,hob i hi]
    rfl
   ·rw[List.getElem?_eq_none (by simp;omega),List.getElem?_eq_none (by simp;omega)]
    rfl
  rw[hzip,List.foldl_map]
  rfl
 rw[hst]
 exact hfin
structure Shut (x:A) (inner:List Name) (cs:List V) (obs:List (Ob A)):Prop where
 cells:(Deep.op x).1.map (renC1 (nameAt inner))=cs
 obs:ObsLe obs (Deep.op x).2
 okC:∀c∈(Deep.op x).1,Vm.okC (Deep.op x).2.length c
 okOb:∀ob∈(Deep.op x).2,Vm.okOb 0 ob
def shutL (n:Name) (x:A) (inner:List Name):List (Name×Option (Ob A)):=(inner.map fun m=>(m,none))++[(n,some (.abs x))]
theorem Rel.shut (hR:RepOk R) (h:Rel R E st ρ M S a w) {n:Name} {cs:List V} (hn:st.get n=some (.box cs)) {inner:List Name} {obs:List (Ob A)} (hi:obs.length=inner.length) (hin:∀p∈inner.zip obs,st.get p.1=some p.2)
  (hni:n∉inner) (hnd:inner.Nodup) {x:A} (hx:Shut x inner cs obs):∃S',Rel R E (setObs st (shutL n x inner)) ρ M S' a w:=by
 obtain⟨hl,hle⟩:=hx.obs.get
 have hget:∀i,i<inner.length→∃m o,inner[i]?=some m∧obs[i]?=some o∧st.get m=some o:=fun i hi'=>by
  refine⟨inner[i],obs[i]'(by omega),List.getElem?_eq_getElem hi',List.getElem?_eq_getElem (by omega),hin (inner[i],obs[i]'(by omega)) (List.mem_iff_getElem?.2 ⟨i,List.getElem?_zip_eq_some.2 ⟨List.getElem?_eq_getElem hi',List.getElem?_eq_getElem (by omega)⟩⟩)⟩
 have hlive:∀m∈inner,∃ob,st.get m=some ob:=fun m hm=>by
  obtain⟨i,hi1,rfl⟩:=List.mem_iff_getElem.1 hm
  obtain⟨m',o,q1,q2,q3⟩:=hget i hi1
  rw[List.getElem?_eq_getElem hi1] at q1;cases q1
  exact⟨o,q3⟩
 obtain⟨k1,k2,k3⟩:=h.killAll hlive hnd
 have hn':=k2 n _ hn hni
 obtain⟨b,T,cs',e1,e2,e3,e4,e5⟩:=h.objs n _ hn
 let ρc:Rho:=fun m=>if m.1=0∧m.2<inner.length then ρ (nameAt inner m) else none
 let Ss:Nat→List Nat:=fun i=>S (nameAt inner (0,i))
 have hρ:∀m,okN (Deep.op x).2.length m→ρ (nameAt inner m)=ρc m:=fun m hm=>by
  simp only[ρc];rw[if_pos ⟨hm.1,by have:=hm.2;omega⟩]
 have hnm:∀i m,inner[i]?=some m→nameAt inner (0,i)=m:=fun i m hm=>nameAt_get hm
 have hS0:∀i,i<(Deep.op x).2.length→∃m o,inner[i]?=some m∧Ss i=S m∧st.get m=some o:=fun i hi'=>by
  obtain⟨m,o,q1,q2,q3⟩:=hget i (by omega)
  exact⟨m,o,q1,by simp only[Ss];rw[hnm i m q1],q3⟩
 have hbS:b∈S n:=by rw[e1];simp
 have hrep:R.rep x M w b (b::((List.range (Deep.op x).2.length).map Ss).flatten):=by
  refine hR.shuts ⟨ρc,Ss,T,cs',?_⟩
  exact {
   cells:=hx.okC
   obs:=fun i ob hi'=>hx.okOb ob (List.mem_of_getElem? hi')
   heap:=e3
   rel:=by rw[←hx.cells] at e4;exact renCs1_down hρ e4 hx.okC
   mem:=e5
   inner:=fun i ob hi'=>by
    obtain⟨o,q1,q2⟩:=hle i ob hi'
    have hil:i<inner.length:=by have:=(List.getElem?_eq_some_iff.1 q1).1;omega
    obtain⟨m,o',p1,p2,p3⟩:=hget i hil
    rw[q1] at p2;cases p2
    have:=q2.rel (h.objs m _ p3)
    simp only[Ss,hnm i m p1]
    exact this.rename0 (hx.okOb ob (List.mem_of_getElem? hi')) ((by simp only[ρc];rw[if_pos ⟨trivial,hil⟩,hnm i m p1]))
   out:=fun i hi' hb=>by
    obtain⟨m,o,p1,p2,p3⟩:=hS0 i hi'
    rw[p2] at hb
    exact h.disj n m _ _ hn p3 (fun e=>hni (by rw[e];exact List.mem_of_getElem? p1)) b hbS hb
   apart:=fun i j hi' hj' hij k hk hk'=>by
    obtain⟨m,o,p1,p2,p3⟩:=hS0 i hi'
    obtain⟨m',o',p1',p2',p3'⟩:=hS0 j hj'
    rw[p2] at hk
    rw[p2'] at hk'
    refine h.disj m m' _ _ p3 p3' (fun e=>hij ?_) k hk hk'
    subst e
    exact(List.getElem?_inj (List.getElem?_eq_some_iff.1 p1).1 hnd).1 (p1.trans p1'.symm)
   all:=rfl}
 have hlen:(Deep.op x).1.length=cs.length:=by rw[←hx.cells];simp
 have:=k1.reob hn' (ob':=.abs x) (T:=b::((List.range (Deep.op x).2.length).map Ss).flatten) ⟨b,by rw[hR.size,hlen];exact e2,hrep⟩ fun k hk=>by
  rcases List.mem_cons.1 hk with rfl|hk
  ·exact⟨h.blt n _ hn _ hbS,h.own n _ hn _ hbS,fun n' ob1 h1 h2=>h.disj n n' _ _ hn (k3 n' ob1 h1).2 (Ne.symm h2) _ hbS⟩
  ·obtain⟨l,hl',hkl⟩:=List.mem_flatten.1 hk
   obtain⟨i,hi',rfl⟩:=List.mem_map.1 hl'
   obtain⟨m,o,p1,p2,p3⟩:=hS0 i (List.mem_range.1 hi')
   rw[p2] at hkl
   refine⟨h.blt m _ p3 k hkl,h.own m _ p3 k hkl,fun n' ob1 h1 _=>?_⟩
   obtain⟨q1,q2⟩:=k3 n' ob1 h1
   exact h.disj m n' _ _ p3 q2 (fun e=>q1 (by rw[←e];exact List.mem_of_getElem? p1)) k hkl
 rw[shutL,setObs_append]
 exact⟨_,this⟩
end Go.Vm
