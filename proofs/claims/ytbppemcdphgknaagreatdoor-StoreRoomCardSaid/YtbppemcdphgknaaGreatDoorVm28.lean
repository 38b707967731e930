/- A part of the proofs over the seat YtbppemcdphgknaaGreatDoor. -/
import Derived.Test.YtbppemcdphgknaaGreatDoorV24
set_option linter.unusedVariables false
set_option linter.unusedSimpArgs false
namespace Go.Vm
open Go
section
variable {A:Type} {R:Rep A} {E:Env} {st:St A} {ρ:Rho} {M:Mem} {S:Name→List Nat} {a:Act} {w:World}
def Weak (R:Rep A) (E:Env) (st st':St A):Prop:=∀ρ M S a w,Rel R E st ρ M S a w→∃ρ' M' S',(ρ.le ρ'∧M.le M')∧Rel R E st' ρ' M' S' a w
theorem Weak.refl (st:St A):Weak R E st st:=fun ρ M S _ _ h=>⟨ρ,M,S,⟨Rho.le_refl _,Mem.le_refl _⟩,h⟩
theorem Weak.trans {st st' st'':St A} (h:Weak R E st st') (h':Weak R E st' st''):Weak R E st st'':=fun ρ M S a w hr=>by
 obtain⟨ρ1,M1,S1,h1,h2⟩:=h ρ M S a w hr
 obtain⟨ρ2,M2,S2,h3,h4⟩:=h' ρ1 M1 S1 a w h2
 exact⟨ρ2,M2,S2,⟨Rho.le_trans h1.1 h3.1,Mem.le_trans h1.2 h3.2⟩,h4⟩
theorem Weak.nil {n:Name} {cs:List V} (hn:st.get n=some (.box cs)) {i s g sz:Nat} {o₀:Option (Ob A)} (hi:cs[i]?=some .nils) (hs:st.objs[s]?=some (g,o₀)) (hne:n.1≠s+1) {ob:Ob A} (hob:ob=.row sz [] false∨ob=.prow []) :
  Weak R E st ((st.setOb (s+1,g+1) (some ob)).setOb n (some (.box (lset cs i (.rsl (s+1,g+1) sz 0 0))))):=fun ρ M S a w h=>by
 have hle:=Rho.le_new h hs (0,0,0)
 have hk:=h.new (x:=(0,0,0)) hs (T:=[]) (M':=M) (w':=w) (ob:=ob) (by
  rcases hob with rfl|rfl
  ·exact .inr ⟨rfl,rfl,0,0,by simp⟩
  ·exact .inr ⟨rfl,rfl,0,0,by simp⟩) (fun _ hk=>by cases hk) (Mem.le_refl _) (fun _ _ _ hv=>.inl hv)
  (fun _ _ _ _ _ _ _=>rfl) h.mem (fun _ _ _ _ _ _=>rfl) (fun _ _ _=>rfl) (Nat.le_refl _) rfl rfl rfl
 have hn':(st.setOb (s+1,g+1) (some ob)).get n=some (.box cs):=by rw[St.get_setOb_slot hs,if_neg hne];exact hn
 obtain⟨b,T,cs',e1,e2,e3,e4,e5⟩:=h.objs n _ hn
 have hnn:n≠(s+1,g+1):=fun e=>hne (by rw[e])
 refine⟨_,M,_,⟨hle,Mem.le_refl _⟩,hk.reob hn' (ob':=.box (lset cs i (.rsl (s+1,g+1) sz 0 0))) (T:=[b]) ⟨b,T,cs',rfl,?_,e3,?_,e5⟩ fun k hk'=>?_⟩
 ·rw[lset_eq,List.length_set];exact hle _ _ e2
 ·rw[lset_eq]
  have h4:=e4.mono hle (Mem.le_refl M)
  refine⟨by simpa using h4.1,fun j v u hj hu=>?_⟩
  rw[List.getElem?_set] at hj
  split at hj
  ·rename_i e
   subst e
   split at hj
   ·cases hj
    have:=h4.2 i .nils u hi hu
    cases this
    exact .rsl0
   ·cases hj
  ·exact h4.2 j v u hj hu
 ·simp at hk';subst hk'
  have hb:k∈(fun m=>if m=(s+1,g+1) then[] else S m) n:=by simp only[if_neg hnn];rw[e1];simp
  exact⟨hk.blt n _ hn' k hb,hk.own n _ hn' k hb,fun n' ob1 h1 h2=>hk.disj n n' _ _ hn' h1 (Ne.symm h2) k hb⟩
theorem Weak.snap {n m:Name} {cs:List V} (hn:st.get n=some (.box cs)) {i sz j len:Nat} {es:List (List V)} {fz:Bool} (hi:cs[i]?=some (.rsl m sz j len)) (hm:st.get m=some (.row sz es fz)) (hl:j+len≤es.length) :
  Weak R E st ((st.setOb m (some (.row sz es true))).setOb n (some (.box (lset cs i (.lst sz ((es.drop j).take len)))))):=fun ρ M S a w h=>by
 obtain⟨M',f1,f2,f3⟩:=h.freeze hm
 have hne:n≠m:=fun e=>by rw[e,hm] at hn;cases hn
 have hn':(st.setOb m (some (Ob.row sz es true))).get n=some (.box cs):=St.get_setOb_ne hm hn hne _
 obtain⟨b,T,cs',e1,e2,e3,e4,e5⟩:=f2.objs n _ hn'
 refine⟨ρ,M',_,⟨Rho.le_refl _,f1⟩,f2.reob hn' (ob':=.box (lset cs i (.lst sz ((es.drop j).take len)))) (T:=[b]) ⟨b,T,cs',rfl,?_,e3,?_,e5⟩ fun k hk'=>?_⟩
 ·rw[lset_eq,List.length_set];exact e2
 ·rw[lset_eq]
  obtain⟨b0,T0,cs0,q1,q2,q3,q4,q5⟩:=h.objs n _ hn
  rw[e2] at q2;cases q2
  rw[e3] at q3
  have hcs:cs0=cs':=by
   have:=q3
   simp at this
   exact this.1.symm
  subst hcs
  refine⟨by simpa using e4.1,fun k v u hk hu=>?_⟩
  rw[List.getElem?_set] at hk
  split at hk
  ·rename_i e
   subst e
   split at hk
   ·cases hk
    exact f3 j len u hl (q4.2 i _ u hi hu)
   ·cases hk
  ·exact e4.2 k v u hk hu
 ·simp at hk';subst hk'
  have hb:k∈S n:=by rw[e1];simp
  exact⟨f2.blt n _ hn' k hb,f2.own n _ hn' k hb,fun n' ob1 h1 h2=>f2.disj n n' _ _ hn' h1 (Ne.symm h2) k hb⟩
theorem Weak.cut {n:Name} {sz:Nat} {es:List (List V)} (hn:st.get n=some (.row sz es false)) (k:Nat) :
  Weak R E st (st.setOb n (some (.row sz (es.take k) false))):=fun ρ M S a w h=>by
 refine⟨ρ,M,_,⟨Rho.le_refl _,Mem.le_refl _⟩,h.reob hn (ob':=.row sz (es.take k) false) (T:=S n) ?_ fun b hb=>⟨h.blt n _ hn b hb,h.own n _ hn b hb,fun n' ob1 h1 h2=>h.disj n n' _ _ hn h1 (Ne.symm h2) b hb⟩⟩
 rcases h.objs n _ hn with⟨b,o,c,T,cs',e1,e2,e3,e4,e5,e6,e7,e8⟩|⟨rfl,e1,e2⟩
 ·refine .inl ⟨b,o,c,T,cs',e1,e2,e3,e4,Nat.le_trans (Nat.mul_le_mul_right _ (show(es.take k).length≤es.length by simp;omega)) e5,fun e he=>e6 e (List.mem_of_mem_take he),fun i j e v hi hj=>?_,fun j hj=>absurd (e8 j hj).1 (by decide)⟩
  rw[List.getElem?_take] at hi
  split at hi
  ·exact e7 i j e v hi hj
  ·cases hi
 ·exact .inr ⟨by simp,e1,e2⟩
theorem Weak.snapT {m:Name} {t sz j len:Nat} {es:List (List V)} {fz:Bool} (ht:st.tmps[t]?=some (.rsl m sz j len)) (hm:st.get m=some (.row sz es fz)) (hl:j+len≤es.length) :
  Weak R E st ((st.setOb m (some (.row sz es true))).put (some t) (.lst sz ((es.drop j).take len))):=fun ρ M S a w h=>by
 obtain⟨M',f1,f2,f3⟩:=h.freeze hm
 refine⟨ρ,M',S,⟨Rho.le_refl _,f1⟩,{f2 with tmps:=?_}⟩
 have e:(st.setOb m (some (Ob.row sz es true))).tmps=st.tmps:=by
  obtain⟨m1,g⟩:=m
  cases m1<;>rfl
 show VsRel ρ M' (lset (st.setOb m (some (Ob.row sz es true))).tmps t (.lst sz ((es.drop j).take len))) a.tmps.toList
 have h4:=f2.tmps
 rw[e] at h4 ⊢
 rw[lset_eq]
 refine⟨by simpa using h4.1,fun k v u hk hu=>?_⟩
 rw[List.getElem?_set] at hk
 split at hk
 ·rename_i e
  subst e
  split at hk
  ·cases hk
   have h5:=h.tmps
   exact f3 j len u hl (h5.2 t _ u ht hu)
  ·cases hk
 ·exact h4.2 k v u hk hu
theorem Sat.weak (h:Sat R E st a w) {st':St A} (hw:Weak R E st st'):Sat R E st' a w:=by
 obtain⟨ρ,M,S,h⟩:=h
 obtain⟨ρ',M',S',_,h'⟩:=hw ρ M S a w h
 exact⟨ρ',M',S',h'⟩
theorem Weak.more (k:Nat):Weak R E st {st with objs:=st.objs++List.replicate k (0,none)}:=fun ρ M S a w h=>by
 have hget:∀n ob,({st with objs:=st.objs++List.replicate k (0,none)}:St A).get n=some ob→st.get n=some ob:=by
  rintro⟨n1,g⟩ ob hn
  cases n1 with
  | zero=>exact hn
  | succ s=>
   have:=St.get_slot_gen hn
   simp only[List.getElem?_append,List.getElem?_replicate] at this
   split at this
   ·simp[St.get,this]
   ·split at this<;>simp at this
 exact⟨ρ,M,S,⟨Rho.le_refl _,Mem.le_refl _⟩,{h with
  objs:=fun n ob hn=>h.objs n ob (hget n ob hn)
  disj:=fun n n' ob ob' hn hn'=>h.disj n n' ob ob' (hget n ob hn) (hget n' ob' hn')
  blt:=fun n ob hn=>h.blt n ob (hget n ob hn)
  own:=fun n ob hn=>h.own n ob (hget n ob hn)
  fresh:=fun n g hg=>h.fresh n g fun p hp=>hg p (by
   show(st.objs++List.replicate k (0,none))[n]?=some p
   rw[List.getElem?_append_left (List.getElem?_eq_some_iff.1 hp).1];exact hp)}⟩
noncomputable def gensOf (st:St A) (ss:List Nat) (k:List (Nat×Nat)→Prop):Prop:=
 List.rec (motive:=fun _=>(List (Nat×Nat)→Prop)→Prop) (fun k=>k []) (fun s _ ih k=>match lget st.objs s with
  | some p=>forceN p.1 fun g=>ih fun r=>k ((s,g)::r)
  | none=>False) ss k
theorem gensOf_ok:∀{ss:List Nat} {k:List (Nat×Nat)→Prop},gensOf st ss k→∃sl,k sl∧sl.map (·.1)=ss∧∀p∈sl,∃o,st.objs[p.1]?=some (p.2,o)
 | [],k,h=>⟨[],h,rfl,fun _ h=>by cases h⟩
 | s::r,k,h=>by
  replace h:(match lget st.objs s with
   | some p=>forceN p.1 fun g=>gensOf st r fun r=>k ((s,g)::r)
   | none=>False):=h
  split at h
  ·rename_i p hp
   rw[forceN_eq] at h
   obtain⟨sl,h1,h2,h3⟩:=gensOf_ok h
   rw[lget_eq] at hp
   refine⟨_,h1,by simp[h2],fun q hq=>?_⟩
   rcases List.mem_cons.1 hq with rfl|hq
   ·exact⟨p.2,hp⟩
   ·exact h3 q hq
  ·exact h.elim
def okSlots (n:Name):List Nat→Bool
 | []=>true
 | s::r=>!(Nat.beq n.1 (s+1))&&((r.all fun t=>!(Nat.beq s t))&&okSlots n r)
theorem okSlots_ok {n:Name}:∀{l:List Nat},okSlots n l=true→l.Pairwise (·≠·)∧∀s∈l,n.1≠s+1
 | [],_=>⟨List.Pairwise.nil,fun _ h=>by cases h⟩
 | s::r,h=>by
  simp only[okSlots,Bool.and_eq_true,Bool.not_eq_true',List.all_eq_true] at h
  obtain⟨h1,h2,h3⟩:=h
  obtain⟨k1,k2⟩:=okSlots_ok h3
  refine⟨List.pairwise_cons.2 ⟨fun t ht e=>?_,k1⟩,fun t ht=>?_⟩
  ·subst e
   have:=h2 s ht
   simp at this
  ·rcases List.mem_cons.1 ht with rfl|ht
   ·intro e;rw[e] at h1;simp at h1
   ·exact k2 t ht
end
section
variable {A:Type} [Deep A] {E:Env} {st:St A} {C:Cx A} {a:Act} {w:World}
inductive WS (A:Type) where
 | shut (n:Name) (x:A)
 | nil (n:Name) (i s sz:Nat)
 | nilp (n:Name) (i s:Nat)
 | snap (n:Name) (i:Nat)
 | cut (n:Name) (k:Nat)
 | snapT (t:Nat)
 | opn (n:Name) (ss:List Nat)
noncomputable def vweak1 (st:St A) (x:WS A) (K:St A→Prop):Prop:=match x with
 | .shut n x=>match st.get n with
  | some (.box cs)=>(lookAll (innerOf [n] [Ob.box (A:=A) cs])).wp st.get fun obs _=>Shut x (innerOf [n] [Ob.box (A:=A) cs]) cs obs∧setObsK (shutL n x (innerOf [n] [Ob.box (A:=A) cs])) st K
  | _=>False
 | .nil n i s sz=>match st.get n with
  | some (.box cs)=>match lget cs i,lget st.objs s with
   | some .nils,some p=>forceN (p.1+1) fun g=>Nat.beq n.1 (s+1)=false∧setObsK [((s+1,g),some (.row sz [] false)),(n,some (.box (lset cs i (.rsl (s+1,g) sz 0 0))))] st K
   | _,_=>False
  | _=>False
 | .nilp n i s=>match st.get n with
  | some (.box cs)=>match lget cs i,lget st.objs s with
   | some .nils,some p=>forceN (p.1+1) fun g=>Nat.beq n.1 (s+1)=false∧setObsK [((s+1,g),some (.prow [])),(n,some (.box (lset cs i (.rsl (s+1,g) 1 0 0))))] st K
   | _,_=>False
  | _=>False
 | .snap n i=>match st.get n with
  | some (.box cs)=>match lget cs i with
   | some (.rsl m sz j len)=>match st.get m with
    | some (.row sz' es _)=>(Nat.beq sz sz'=true∧j+len≤es.length)∧setObsK [(m,some (.row sz es true)),(n,some (.box (lset cs i (.lst sz ((es.drop j).take len)))))] st K
    | _=>False
   | _=>False
  | _=>False
 | .cut n k=>match st.get n with
  | some (.row sz es false)=>setObsK [(n,some (.row sz (es.take k) false))] st K
  | _=>False
 | .snapT t=>match lget st.tmps t with
  | some (.rsl m sz j len)=>match st.get m with
   | some (.row sz' es _)=>(Nat.beq sz sz'=true∧j+len≤es.length)∧setObsK [(m,some (.row sz es true))] st fun st=>putK st (some t) (.lst sz ((es.drop j).take len)) K
   | _=>False
  | _=>False
 | .opn n ss=>match st.get n with
  | some (.abs x)=>gensOf st ss fun sl=>(sl.length=(Deep.op x).2.length∧okSlots n ss=true)∧setObsK (opened n x sl) st K
  | _=>False
theorem vweak1_ok {x:WS A} {K:St A→Prop} (h:vweak1 st x K):∃st',Weak C.R E st st'∧K st':=by
 unfold vweak1 at h
 cases x with
 | shut n x=>
  simp only at h
  split at h
  ·rename_i cs hn
   obtain⟨obs,ns,h1,hs,h⟩:=Rd.wp_runs h
   rw[setObsK_eq] at h
   obtain⟨hl,hz⟩:=lookAll_runs h1
   have hin:=innerOf_ok (N:=[n]) (obs:=[Ob.box (A:=A) cs])
   exact⟨_,fun ρ M S a w hr=>by
    obtain⟨S',h'⟩:=hr.shut C.hR hn hl hz (fun hc=>hin.2 n hc (by simp)) hin.1 hs
    exact⟨ρ,M,S',⟨Rho.le_refl _,Mem.le_refl _⟩,h'⟩,h⟩
  ·exact h.elim
 | nil n i s sz=>
  simp only at h
  split at h
  ·rename_i cs hn
   split at h
   ·rename_i p hi hs
    rw[forceN_eq] at h
    obtain⟨hne,h⟩:=h
    rw[setObsK_eq] at h
    rw[lget_eq] at hi hs
    exact⟨_,Weak.nil hn hi hs (fun e=>by rw[e] at hne;simp at hne) (.inl rfl),h⟩
   ·exact h.elim
  ·exact h.elim
 | nilp n i s=>
  simp only at h
  split at h
  ·rename_i cs hn
   split at h
   ·rename_i p hi hs
    rw[forceN_eq] at h
    obtain⟨hne,h⟩:=h
    rw[setObsK_eq] at h
    rw[lget_eq] at hi hs
    exact⟨_,Weak.nil hn hi hs (fun e=>by rw[e] at hne;simp at hne) (.inr rfl),h⟩
   ·exact h.elim
  ·exact h.elim
 | snap n i=>
  simp only at h
  split at h
  ·rename_i cs hn
   split at h
   ·rename_i m sz j len hi
    split at h
    ·rename_i sz' es fz hm
     obtain⟨⟨h1,h2⟩,h⟩:=h
     obtain rfl:=Nat.eq_of_beq_eq_true h1
     rw[setObsK_eq] at h
     rw[lget_eq] at hi
     exact⟨_,Weak.snap hn hi hm h2,h⟩
    ·exact h.elim
   ·exact h.elim
  ·exact h.elim
 | cut n k=>
  simp only at h
  split at h
  ·rename_i sz es hn
   rw[setObsK_eq] at h
   exact⟨_,Weak.cut hn k,h⟩
  ·exact h.elim
 | snapT t=>
  simp only at h
  split at h
  ·rename_i m sz j len ht
   split at h
   ·rename_i sz' es fz hm
    obtain⟨⟨h1,h2⟩,h⟩:=h
    obtain rfl:=Nat.eq_of_beq_eq_true h1
    rw[setObsK_eq,putK_eq] at h
    rw[lget_eq] at ht
    exact⟨_,Weak.snapT ht hm h2,h⟩
   ·exact h.elim
  ·exact h.elim
 | opn n ss=>
  simp only at h
  split at h
  ·rename_i x hn
   obtain⟨sl,⟨⟨hl,hok⟩,h⟩,hm,hs⟩:=gensOf_ok h
   rw[setObsK_eq] at h
   obtain⟨k1,k2⟩:=okSlots_ok hok
   rw[←hm] at k1 k2
   refine⟨_,fun ρ M S a w hr=>?_,h⟩
   obtain⟨ρ',S',h1,h2⟩:=hr.open C.hR hn hl hs (by rw[List.pairwise_map] at k1;exact k1) fun p hp=>k2 _ (List.mem_map.2 ⟨p,hp,rfl⟩)
   exact⟨ρ',M,S',⟨h1,Mem.le_refl _⟩,h2⟩
  ·exact h.elim
noncomputable def vweak (l:List (WS A)) (st:St A) (K:St A→Prop):Prop:=
 List.rec (motive:=fun _=>St A→(St A→Prop)→Prop) (fun st K=>K st) (fun x _ ih st K=>vweak1 st x fun st=>ih st K) l st K
theorem vweak_ok:∀{l:List (WS A)} {st:St A} {K:St A→Prop},vweak l st K→∃st',Weak C.R E st st'∧K st'
 | [],st,_,h=>⟨st,Weak.refl st,h⟩
 | x::r,st,K,h=>by
  replace h:vweak1 st x fun st=>vweak r st K:=h
  obtain⟨st1,h1,h⟩:=vweak1_ok (C:=C) (E:=E) h
  obtain⟨st2,h2,h⟩:=vweak_ok h
  exact⟨st2,h1.trans h2,h⟩
theorem VLoop.weak {b:Code} {K:Exit→St A→Prop} (l:List (WS A)) (h:vweak l st fun st=>VLoop C E b st K):VLoop C E b st K:=by
 obtain⟨st',h1,h2⟩:=vweak_ok (C:=C) (E:=E) h
 unfold VLoop at h2 ⊢
 exact fun a w hs=>h2 a w (hs.weak h1)
noncomputable def aendW (C:Cx A) (fn:Func) (m:Nat) (r:V) (obs':List (Ob A)) (nw:Option (Ob A)) (e:Exit) (st:St A):Prop:=match e with
 | .exit _=>False
 | _=>(vres C st fn.results.toList).wp st.get fun vs _=>forceVs vs fun vs=>(snapAll vs).wp st.get fun x _=>forceVs x.1 fun vs=>setObsK x.2 st fun st2=>∃l,vweak l st2 fun st3=>aok m r obs' nw vs st3
end
section
variable {P:Program} {A:Type} {R:Rep A} {E:Env} {st:St A} {ρ:Rho} {M:Mem} {a:Act} {w:World} {G:Nat→V}
def entryO (n k:Nat) (args:List V) (obs:List (Ob A)):St A:={entryA n args obs with objs:=List.replicate (n+k) (0,none)}
theorem ATriple.of_bodyW [Deep A] {C:Cx A} {f:FuncId} {fn:Func} {c:Code} (hf:C.P.funcs[f]?=some fn) (hb:fn.body=some c) (hn:(fn.name == "runtime.NumGoroutine")=false) (hm:C.P.follows .mixedOrders=true) {args:List V} {r:V}
  {obs obs':List (Ob A)} {nw:Option (Ob A)} (hl:obs'.length=obs.length) (k1:∀v∈args,okA obs.length v) (k2:∀o∈obs,okOb obs.length o) (k3:nw=none→okG obs.length r) (k4:∀o∈obs',okOb obs.length o)
  (k5:∀o,nw=some o→okOb obs.length o∧r=.ref (0,obs.length) 0)
  (k:Nat) (l0:List (WS A)) (h:∀E,EOk C E→forceSt (entryO fn.ntmps k args obs) fun st=>vweak l0 st fun st=>vcode C E c st (aendW C fn obs.length r obs' nw)):ATriple C.P C.G C.R f args obs r obs' nw:=by
 have k3':okG (obs.length+1) r:=by
  cases hnw:nw with
  | none=>exact okG_mono (Nat.le_succ _) (k3 hnw)
  | some o=>rw[(k5 o hnw).2];exact⟨rfl,Nat.lt_succ_self _⟩
 refine⟨⟨k1,k2,k3',fun o ho=>okOb_mono (Nat.le_succ _) (k4 o ho),fun o ho=>okOb_mono (Nat.le_succ _) (k5 o ho).1⟩,⟨fn,hf,hn,by rw[hb];rfl⟩,hl,fun w M ρ S args' hG hM hv hd hnd hobs hdis hblt=>?_⟩
 simp only[forceSt_eq] at h
 have hz:∀{j:Nat} {ob:Ob A},obs[j]?=some ob→((0,j),ob)∈(canon obs.length).zip obs:=fun {j ob} h=>zip_iff.2 ⟨j,canon_get.2 ⟨(List.getElem?_eq_some_iff.1 h).1,rfl⟩,h⟩
 let ρi:Rho:=fun n=>if n.1=0∧n.2<obs.length then ρ n else none
 have hρi:∀n,okN obs.length n→ρi (id n)=ρ n:=fun n hn=>if_pos hn
 have hρi':∀n,okN obs.length n→ρ (id n)=ρi n:=fun n hn=>(if_pos hn).symm
 have e1:∀v,renA1 id v=v:=fun _=>renA1_id
 have hargs:VsRel ρi M args args':=by
  have:=renAs1_up (φ:=id) (ρ2:=ρi) hρi hv k1
  rwa [show renA1 id=id from funext e1,List.map_id] at this
 let E:Env:={w0:=w,M0:=M,ρ0:=ρi,S0:=(List.range obs.length).flatMap fun j=>S (0,j)}
 have hS0:∀{b:Nat},b∈E.S0↔∃p∈(canon obs.length).zip obs,b∈S p.1:=fun {b}=>by
  show b∈(List.range obs.length).flatMap (fun j=>S (0,j))↔_
  rw[List.mem_flatMap]
  constructor
  ·rintro⟨j,h1,h2⟩
   have hj:=List.mem_range.1 h1
   exact⟨_,hz (List.getElem?_eq_getElem hj),h2⟩
  ·rintro⟨p,h1,h2⟩
   obtain⟨j,h3,h4⟩:=zip_iff.1 h1
   obtain⟨hj,h3⟩:=canon_get.1 h3
   exact⟨j,List.mem_range.2 hj,by rw[←h3];exact h2⟩
 have hE:EOk C E:=⟨hG⟩
 have hlen:args.length=args'.length:=hargs.1
 have hget:∀n ob,(entryA fn.ntmps args obs).get n=some ob→∃j,n=(0,j)∧obs[j]?=some ob:=by
  rintro⟨n1,g⟩ ob hn
  cases n1 with
  | zero=>
   simp only[entryA,St.get,List.getElem?_map] at hn
   cases ho:obs[g]? with
   | none=>rw[ho] at hn;simp at hn
   | some o=>rw[ho] at hn;simp at hn;subst hn;exact⟨g,rfl,ho⟩
  | succ s=>
   have:=St.get_slot_gen hn
   simp only[entryA] at this
   rw[List.getElem?_replicate] at this
   split at this<;>simp at this
 have hs:Sat C.R E (entryA fn.ntmps args obs) {tmps:=args'.toArray++Array.replicate (fn.ntmps-args'.toArray.size) undef,defers:=[]} w:=by
  refine⟨ρi,M,S,{
   defers:=rfl
   tmps:=?_
   mem:=hM
   objs:=fun n ob hn=>by
    obtain⟨j,rfl,ho⟩:=hget n ob hn
    have hj:=(List.getElem?_eq_some_iff.1 ho).1
    have:=renO1_up (φ:=id) (ρ2:=ρi) hρi (n':=(0,j)) (hρi (0,j) ⟨rfl,hj⟩) (hobs _ (hz ho)) (k2 _ (List.mem_of_getElem? ho))
    rwa [renO1_id] at this
   disj:=fun n n' ob ob' h1 h2 hne=>by
    obtain⟨j,rfl,ho⟩:=hget n ob h1
    obtain⟨j',rfl,ho'⟩:=hget n' ob' h2
    exact hdis _ (hz ho) _ (hz ho') hne
   blt:=fun n ob hn=>by
    obtain⟨j,rfl,ho⟩:=hget n ob hn
    exact hblt _ (hz ho)
   own:=fun n ob hn b hb=>by
    obtain⟨j,rfl,ho⟩:=hget n ob hn
    exact .inl (hS0.2 ⟨_,hz ho,hb⟩)
   fresh:=fun _ _ _=>rfl
   hsize:=Nat.le_refl _
   keep:=fun _ _ _=>rfl
   os:=rfl
   tape:=rfl
   output:=rfl
   M0:=Mem.le_refl _
   Mnew:=fun _ _ _ h=>.inl h
   ρ0:=fun _ _ h=>h}⟩
  simp only[entryA,Array.toList_append,Array.toList_replicate,List.size_toArray,hlen]
  refine hargs.append ⟨by simp,fun i v v' hv hv'=>?_⟩
  rw[List.getElem?_replicate] at hv
  split at hv
  ·cases hv;exact .undef _
  ·cases hv
 have hs2:Sat C.R E (entryO fn.ntmps k args obs) {tmps:=args'.toArray++Array.replicate (fn.ntmps-args'.toArray.size) undef,defers:=[]} w:=by
  have:=hs.weak (Weak.more k)
  rw[show(entryA fn.ntmps args obs).objs++List.replicate k (0,none)=List.replicate (fn.ntmps+k) (0,none) by simp[entryA]] at this
  exact this
 obtain⟨st1,hw1,hcode⟩:=vweak_ok (C:=C) (E:=E) (h E hE)
 refine calls_of_wp hf hb (wp_mono (vcode_sound hE hm hcode _ _ (hs2.weak hw1)) fun e a' w' ⟨h1,st',h2,h3⟩=>?_)
 have fin:∀{vs:List V} {n1:List Name},Rd.Runs st'.get (vres C st' fn.results.toList) vs n1→(forceVs vs fun vs=>(snapAll vs).wp st'.get fun x _=>forceVs x.1 fun vs=>setObsK x.2 st' fun st2=>∃l,vweak l st2 fun st3=>aok obs.length r obs' nw vs st3)→
   a'.defers=[]∧∃v,(results fn a'.tmps).run C.P w'=.ok v w'∧∃r' M' ρ' S',Ending.returned v=.returned r'∧
    XPost C.R ρ M S w ((canon obs.length).zip obs) (0,obs.length) ((canon obs.length).zip obs'++newOb (0,obs.length) nw) ρ' M' S' w'∧(nw=none→ρ' (0,obs.length)=none)∧VRel ρ' M' r r':=by
  intro vs n1 q1 q2
  obtain⟨ρf,M1,Sf,hr⟩:=h3
  rw[forceVs_eq] at q2
  obtain⟨x,n2,q3,q2⟩:=Rd.wp_runs q2
  rw[forceVs_eq,setObsK_eq] at q2
  obtain⟨vs',p1,p2⟩:=vres_sound hE hr q1
  obtain⟨M2,r1,r2,_,r4⟩:=snapAll_sound (SameRows.refl st') hr p2 q3
  obtain⟨l,q2⟩:=q2
  obtain⟨st3,hw3,q2⟩:=vweak_ok (C:=C) (E:=E) q2
  obtain⟨ρg,M3,Sg,hleg,r3⟩:=hw3 _ _ _ _ _ r2
  replace r4:=r4.mono hleg.1 hleg.2
  have hrun:(results fn a'.tmps).run C.P w'=.ok (if h:vs'.toArray.size=1 then vs'.toArray[0] else .tuple vs'.toArray) w':=by
   rw[results_eq,Sem.run_bind,Array.mapM_eq_mapM_toList,Sem.run_map,p1]
   rfl
  have hret:VRel ρg M3 (retOf x.1) (if h:vs'.toArray.size=1 then vs'.toArray[0] else .tuple vs'.toArray):=by
   match hx:x.1,r4 with
   | [],r4=>obtain rfl:=r4.nil_inv;exact .tup rfl (fun i v v' hv=>by simp at hv)
   | [v],r4=>
    obtain⟨v',r',rfl,z1,z2⟩:=r4.uncons
    obtain rfl:=z2.nil_inv
    exact z1
   | v::u::l,r4=>
    obtain⟨v',r',rfl,z1,z2⟩:=r4.uncons
    obtain⟨u',r'',rfl,z3,z4⟩:=z2.uncons
    have:=VRel.tup (ρ:=ρg) (M:=M3) r4.1 r4.2
    simpa[retOf] using this
  have hρg:∀n,okN obs.length n→ρ (id n)=ρg n:=fun n hn=>by
   obtain⟨n1,j⟩:=n
   obtain⟨h1,h2⟩:=hn
   simp only at h1 h2
   subst h1
   obtain⟨x,hx⟩:=(hobs _ (hz (List.getElem?_eq_getElem h2))).named
   have h3:ρi (0,j)=some x:=(hρi (0,j) ⟨rfl,h2⟩).trans hx
   exact hx.trans (r3.ρ0 j x h3).symm
  have har:st3.arena=obs'.map some:=by
   cases hnw:nw with
   | none=>rw[hnw] at q2;exact q2.2
   | some ob=>rw[hnw] at q2;obtain⟨_,_,_,_,_,q⟩:=q2;exact q
  have hold:∀{j:Nat} {ob:Ob A},obs'[j]?=some ob→st3.get (0,j)=some ob:=fun {j ob} h=>by
   simp only[St.get,har,List.getElem?_map,h,Option.map_some]
  have base:∀(ρ':Rho) (S':Name→List Nat),(∀n,n≠(0,obs.length)→ρ' n=ρ n)→(∀j,j<obs.length→S' (0,j)=Sg (0,j))→
    (∀o,nw=some o→∃n0:Name,n0.1≠0∧st3.get n0=some o∧ρ' (0,obs.length)=ρg n0∧S' (0,obs.length)=Sg n0)→
    XPost C.R ρ M S w ((canon obs.length).zip obs) (0,obs.length) ((canon obs.length).zip obs'++newOb (0,obs.length) nw) ρ' M3 S' w':=by
   intro ρ' S' g1 g2 g3
   have hρ':∀n,okN obs.length n→ρ' (id n)=ρg n:=fun n hn=>by
    rw[←hρg n hn]
    exact g1 n fun e=>by subst e;exact Nat.lt_irrefl _ hn.2
   have each:∀p∈(canon obs.length).zip obs'++newOb (0,obs.length) nw,∃n,st3.get n=some p.2∧ρ' p.1=ρg n∧S' p.1=Sg n∧okOb obs.length p.2∧(p.1=n∧n.1=0∨n.1≠0∧p.1=(0,obs.length)):=by
    intro p hp
    rcases List.mem_append.1 hp with hp|hp
    ·obtain⟨j,y1,y2⟩:=zip_iff.1 hp
     obtain⟨hj,y1⟩:=canon_get.1 y1
     exact⟨(0,j),hold y2,by rw[y1];exact hρ' (0,j) ⟨rfl,hj⟩,by rw[y1];exact g2 j hj,k4 _ (List.mem_of_getElem? y2),.inl ⟨y1,rfl⟩⟩
    ·cases hnw:nw with
     | none=>rw[hnw] at hp;cases hp
     | some o=>
      rw[hnw] at hp
      simp only[newOb,List.mem_singleton] at hp
      subst hp
      obtain⟨n0,y1,y2,y3,y4⟩:=g3 o hnw
      exact⟨n0,y2,y3,y4,(k5 o hnw).1,.inr ⟨y1,rfl⟩⟩
   exact {
    le:=r3.M0
    mem:=r3.mem
    size:=r3.hsize
    hos:=r3.os
    tape:=r3.tape
    output:=r3.output
    rho:=g1
    heap:=fun b hb hb'=>r3.keep b hb fun hc=>by
     obtain⟨p,y1,y2⟩:=hS0.1 hc
     exact hb' p y1 y2
    new:=fun b o v hv=>by
     rcases r3.Mnew b o v hv with h|h|h
     ·exact .inl h
     ·exact .inr (.inl h)
     ·exact .inr (.inr (hS0.1 h))
    objs:=fun p hp=>by
     obtain⟨n,y1,y2,y3,y4,y5⟩:=each p hp
     have:=renO1_up (φ:=id) (ρ2:=ρ') hρ' (n':=p.1) y2 (r3.objs n _ y1) y4
     rw[renO1_id] at this
     rw[y3];exact this
    own:=fun p hp b hb=>by
     obtain⟨n,y1,y2,y3,y4,y5⟩:=each p hp
     rw[y3] at hb
     rcases r3.own n _ y1 b hb with h|h
     ·exact .inl (hS0.1 h)
     ·exact .inr h
    disj:=fun p hp q hq hne b hb=>by
     obtain⟨n,y1,y2,y3,y4,y5⟩:=each p hp
     obtain⟨n',y1',y2',y3',y4',y5'⟩:=each q hq
     rw[y3] at hb
     rw[y3']
     refine r3.disj n n' _ _ y1 y1' (fun e=>hne ?_) b hb
     subst e
     rcases y5 with⟨z1,z2⟩|⟨z1,z2⟩<;>rcases y5' with⟨z3,z4⟩|⟨z3,z4⟩
     ·rw[z1,z3]
     ·exact absurd z2 z3
     ·exact absurd z4 z1
     ·rw[z2,z4]
    blt:=fun p hp b hb=>by
     obtain⟨n,y1,y2,y3,y4,y5⟩:=each p hp
     rw[y3] at hb
     exact r3.blt n _ y1 b hb}
  refine⟨hr.defers,_,hrun,?_⟩
  cases hnw:nw with
  | none=>
   have hq:retOf x.1=r:=by rw[hnw] at q2;exact q2.1
   refine⟨_,M3,ρ,Sg,rfl,?_,fun _=>hd,?_⟩
   ·rw[←hnw]
    exact base ρ Sg (fun _ _=>rfl) (fun _ _=>rfl) fun o ho=>by rw[hnw] at ho;cases ho
   ·rw[hq] at hret
    have:=renG1_up (φ:=id) (ρ2:=ρ) hρg hret (k3 hnw)
    rwa [renG1_id] at this
  | some ob=>
   rw[hnw] at q2
   obtain⟨n0,y1,y2,y3,y4,_⟩:=(q2:∃n0:Name,n0.1≠0∧x.1=[.ref n0 0]∧r=.ref (0,obs.length) 0∧st3.get n0=some ob∧st3.arena=obs'.map some)
   refine⟨_,M3,fun n=>if n=(0,obs.length) then ρg n0 else ρ n,fun n=>if n=(0,obs.length) then Sg n0 else Sg n,rfl,?_,fun h=>(by cases h),?_⟩
   ·rw[←hnw]
    refine base _ _ (fun n hn=>if_neg hn) (fun j hj=>if_neg fun e=>by cases e;exact Nat.lt_irrefl _ hj) fun o ho=>?_
    rw[hnw] at ho
    cases ho
    exact⟨n0,y1,y4,if_pos rfl,if_pos rfl⟩
   ·rw[y2] at hret
    rw[y3]
    simp only[retOf] at hret
    revert hret
    generalize (if h:vs'.toArray.size=1 then vs'.toArray[0] else .tuple vs'.toArray)=val
    intro hret
    cases hret with
    | ref e=>exact .ref (by rw[if_pos rfl];exact e)
 rcases h1 with rfl|rfl|⟨id,rfl⟩
 ·obtain⟨vs,n1,k1,k2⟩:=Rd.wp_runs h2
  exact fin k1 k2
 ·obtain⟨vs,n1,k1,k2⟩:=Rd.wp_runs h2
  exact fin k1 k2
 ·exact h2.elim
def mkStX (n k:Nat) (ts:List (Nat×V)) (os:List (Nat×Ob A)) (ar:List (Option (Ob A))):St A:=
 ⟨ts.foldl (fun l x=>lset l x.1 x.2) (List.replicate n .undef),os.foldl (fun l x=>lset l x.1 (1,some x.2)) (List.replicate (n+k) (0,none)),ar⟩
theorem ATriple.callN {f:FuncId} {args:List V} {obs obs':List (Ob A)} {r:V} {nw:Option (Ob A)} (h:ATriple P G R f args obs r obs' nw) {vs:List V} {N:List Name} {d:Name} {obs0:List (Ob A)} (hl:N.length=obs.length)
  (hv:args.map (renA1 (nameAt (N++[d])))=vs) (ho:obs.map (renO1 (nameAt (N++[d])))=obs0) :
  XTriple P G R f vs N obs0 d (renG1 (nameAt (N++[d])) r) (obs'.map (renO1 (nameAt (N++[d])))) (nw.map (renO1 (nameAt (N++[d])))):=by
 have:=h.at N d hl
 rw[hv,ho] at this
 exact this
theorem ATriple.callS {f:FuncId} {args r:List V} {x x':A} {v:V} (h:ATriple P G R f args [.abs x] v [.abs x'] none) (hv:∀m d,args.map (renA1 (nameAt [m,d]))=.ref m 0::r) (hr:∀m d,renG1 (nameAt [m,d]) v=v) :
  ∀m d,XTriple P G R f (.ref m 0::r) [m] [.abs x] d v [.abs x'] none:=fun m d=>by
 have:=h.at [m] d rfl
 rw[show([m]++[d]:List Name)=[m,d] from rfl,hv m d,hr m d] at this
 exact this
theorem ATriple.callC {f:FuncId} {args vs:List V} {n:Name} {x x':A} {v:V} (h:ATriple P G R f args [.abs x] v [.abs x'] none) (hv:∀d,args.map (renA1 (nameAt [n,d]))=vs) (hr:∀d,renG1 (nameAt [n,d]) v=v) :
  ∀d,XTriple P G R f vs [n] [.abs x] d v [.abs x'] none:=fun d=>by
 have:=h.at [n] d rfl
 rw[show([n]++[d]:List Name)=[n,d] from rfl,hv d,hr d] at this
 exact this
end
end Go.Vm
