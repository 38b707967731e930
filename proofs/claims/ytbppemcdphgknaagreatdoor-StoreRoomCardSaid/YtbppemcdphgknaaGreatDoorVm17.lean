/- A part of the proofs over the seat YtbppemcdphgknaaGreatDoor. -/
import Derived.Test.YtbppemcdphgknaaGreatDoorVm16
set_option linter.unusedVariables false
set_option linter.unusedSimpArgs false
namespace Go.Vm
open Go
variable {A:Type} {E:Env} {st:St A} {a:Act} {w:World}
@[irreducible] def VLoop [Deep A] (C:Cx A) (E:Env) (b:Code) (st:St A) (K:Exit→St A→Prop):Prop:=
 ∀a w,Sat C.R E st a w→LoopWp C.P b (fun e a' w'=>(e=.normal∨e=.ret∨∃id,e=.exit id)∧∃st',K e st'∧Sat C.R E st' a' w') a w
def seqK (Y:St A→Prop) (K:Exit→St A→Prop) (e:Exit) (st:St A):Prop:=match e with
 | .normal=>Y st
 | e=>K e st
def blockK (id:Nat) (K:Exit→St A→Prop) (e:Exit) (st:St A):Prop:=match e with
 | .exit j=>match j==id with
  | true=>K .normal st
  | false=>K (.exit j) st
 | e=>K e st
def condK (v:V) (X Y:Prop):Prop:=match v with
 | .bool t=>bcase t X Y
 | _=>False
def regK (ops:List Oper) (draw:Bool) (K:St A→Prop) (st:St A) (fps:List Fp):Prop:=match draw with
 | false=>K st
 | true=>indep ops fps=true∧K st
noncomputable def vcode [Deep A] (C:Cx A) (E:Env) (c:Code) (st:St A) (K:Exit→St A→Prop):Prop:=
 Code.rec (motive:=fun _=>St A→(Exit→St A→Prop)→Prop)
  (fun st K=>K .normal st)
  (fun _ ops draw st K=>vregs C ops.toList ops.toList st [] (regK ops.toList draw (K .normal)))
  (fun _ _ ihx ihy st K=>ihx st (seqK (fun st=>ihy st K) K))
  (fun c _ _ ihx ihy st K=>condK (evV C.G st c) (ihx st K) (ihy st K))
  (fun id _ ih st K=>ih st (blockK id K))
  (fun b _ st K=>VLoop C E b st K)
  (fun _ _ _ _ _ _ _ _=>False)
  (fun id st K=>K (.exit id) st)
  (fun _ _ _ _=>False) (fun _ _ _=>False) (fun _ _ _=>False)
  (fun st K=>K .ret st) (fun _ _ _=>False) c st K
theorem vcode_sound [Deep A] {C:Cx A} (hE:EOk C E) (hm:C.P.follows .mixedOrders=true):∀{c:Code} {st:St A} {K:Exit→St A→Prop},vcode C E c st K→VWp C E c st K:=by
 intro c
 induction c with
 | skip=>intro st K h;exact .skip h
 | seq x y ihx ihy=>
  intro st K h
  replace h:vcode C E x st (seqK (fun st=>vcode C E y st K) K):=h
  refine .seq ((ihx h).mono fun e st' h'=>?_)
  unfold seqK at h'
  cases e<;>first|exact ihy h'|exact h'
 | cond c x y ihx ihy=>
  intro st K h
  replace h:condK (evV C.G st c) (vcode C E x st K) (vcode C E y st K):=h
  unfold condK at h
  split at h
  ·rename_i b hb
   refine .cond rfl hE hb ?_
   cases b with
   | true=>exact ihx h
   | false=>exact ihy h
  ·exact h.elim
 | block id x ih=>
  intro st K h
  replace h:vcode C E x st (blockK id K):=h
  refine .block ((ih h).mono fun e st' h'=>?_)
  unfold blockK at h'
  cases e with
  | exit j=>
   simp only at h' ⊢
   by_cases hj:j=id
   ·rw[if_pos hj];simp[hj] at h';exact h'
   ·rw[if_neg hj]
    have:(j==id)=false:=by simpa using hj
    rw[this] at h';exact h'
  | _=>exact h'
 | loop b _=>
  intro st K h
  replace h:VLoop C E b st K:=h
  unfold VLoop at h
  exact fun a w hs=>(h a w hs).wp
 | region id ops draw=>
  intro st K h
  replace h:vregs C ops.toList ops.toList st [] (regK ops.toList draw (K .normal)):=h
  cases draw with
  | false=>exact .region hE h
  | true=>exact .regionDraw hE hm h
 | exit id=>intro st K h;exact .exit h
 | ret=>intro st K h;exact .ret h
 | _=>intro st K h;exact False.elim h
theorem VLoop.unroll [Deep A] {C:Cx A} (hE:EOk C E) (hm:C.P.follows .mixedOrders=true) {b:Code} {K:Exit→St A→Prop} (h:forceSt st fun st=>vcode C E b st (seqK (fun st=>VLoop C E b st K) K)):VLoop C E b st K:=by
 rw[forceSt_eq] at h
 unfold VLoop at h ⊢
 intro a w hs
 refine .round (wp_mono (vcode_sound hE hm h a w hs) fun e a' w' ⟨h1,st',h2,h3⟩=>?_)
 rcases h1 with rfl|rfl|⟨id,rfl⟩
 ·exact h2 a' w' h3
 ·exact⟨.inr (.inl rfl),st',h2,h3⟩
 ·exact⟨.inr (.inr ⟨id,rfl⟩),st',h2,h3⟩
theorem VLoop.mono [Deep A] {C:Cx A} {b:Code} {K K':Exit→St A→Prop} (h:VLoop C E b st K) (hk:∀e st,K e st→K' e st):VLoop C E b st K':=by
 unfold VLoop at h ⊢
 intro a w hs b k cs
 obtain⟨e,a',w',⟨h1,st',h2,h3⟩,h4⟩:=h a w hs b k cs
 exact⟨e,a',w',⟨h1,st',hk _ _ h2,h3⟩,h4⟩
def keepL (ks:List Nat):Nat→List V→List V
 | _,[]=>[]
 | i,v::r=>(match ks.contains i with
  | true=>v
  | false=>.undef)::keepL ks (i+1) r
def keepO (ks:List Nat):Nat→List (Nat×Option (Ob A))→List (Nat×Option (Ob A))
 | _,[]=>[]
 | i,p::r=>(match ks.contains i with
  | true=>p
  | false=>(p.1,none))::keepO ks (i+1) r
def St.keep (st:St A) (ks os:List Nat):St A:={st with tmps:=keepL ks 0 st.tmps,objs:=keepO os 0 st.objs}
theorem keepL_get (ks:List Nat):∀(l:List V) (i j:Nat),(keepL ks i l)[j]?=(l[j]?).map fun v=>match ks.contains (i+j) with
  | true=>v
  | false=>.undef
 | [],_,_=>by simp[keepL]
 | v::r,i,0=>by simp[keepL]
 | v::r,i,j+1=>by
  simp only[keepL,List.getElem?_cons_succ]
  rw[keepL_get ks r (i+1) j,show i+1+j=i+(j+1) by omega]
theorem keepO_get (ks:List Nat):∀(l:List (Nat×Option (Ob A))) (i j:Nat),(keepO ks i l)[j]?=(l[j]?).map fun p=>match ks.contains (i+j) with
  | true=>p
  | false=>(p.1,none)
 | [],_,_=>by simp[keepO]
 | v::r,i,0=>by simp[keepO]
 | v::r,i,j+1=>by
  simp only[keepO,List.getElem?_cons_succ]
  rw[keepO_get ks r (i+1) j,show i+1+j=i+(j+1) by omega]
theorem Sat.keep [Deep A] {C:Cx A} (h:Sat C.R E st a w) (ks os:List Nat):Sat C.R E (st.keep ks os) a w:=by
 obtain⟨ρ,M,S,h⟩:=h
 have key:∀n ob,(st.keep ks os).get n=some ob→st.get n=some ob:=by
  rintro⟨n1,g⟩ ob hn
  cases n1 with
  | zero=>exact hn
  | succ s=>
   have:=St.get_slot_gen hn
   simp only[St.keep,keepO_get] at this
   cases hp:st.objs[s]? with
   | none=>rw[hp] at this;cases this
   | some p=>
    rw[hp] at this
    simp only[Option.map_some,Option.some.injEq] at this
    split at this
    ·simp[St.get,hp,this]
    ·cases this
 refine⟨ρ,M,S,{h with
  defers:=h.defers
  tmps:=?_
  objs:=fun n ob hn=>h.objs n ob (key n ob hn)
  disj:=fun n n' ob ob' hn hn'=>h.disj n n' ob ob' (key n ob hn) (key n' ob' hn')
  blt:=fun n ob hn=>h.blt n ob (key n ob hn)
  own:=fun n ob hn=>h.own n ob (key n ob hn)
  fresh:=fun n g hg=>h.fresh n g fun p hp=>?_}⟩
 ·refine⟨?_,fun i v v' hv hv'=>?_⟩
  ·have:∀(l:List V) i,(keepL ks i l).length=l.length:=by
    intro l;induction l with
    | nil=>intro i;rfl
    | cons v r ih=>intro i;simp[keepL,ih]
   show(keepL ks 0 st.tmps).length=_
   rw[this];exact h.tmps.1
  ·simp only[St.keep,keepL_get] at hv
   cases hp:st.tmps[i]? with
   | none=>rw[hp] at hv;cases hv
   | some u=>
    rw[hp] at hv
    simp only[Option.map_some,Option.some.injEq] at hv
    split at hv
    ·subst hv;exact h.tmps.2 i _ v' hp hv'
    ·subst hv;exact .undef _
 ·have:=hg (match os.contains (0+n) with
   | true=>p
   | false=>(p.1,none)) (by simp only[St.keep,keepO_get,hp];rfl)
  split at this<;>exact this
theorem VLoop.keep [Deep A] {C:Cx A} {b:Code} {K:Exit→St A→Prop} (ks os:List Nat) (h:forceSt (st.keep ks os) fun st=>VLoop C E b st K):VLoop C E b st K:=by
 rw[forceSt_eq] at h
 unfold VLoop at h ⊢
 exact fun a w hs=>h a w (hs.keep ks os)
theorem VLoop.inv [Deep A] {C:Cx A} {b:Code} {K:Exit→St A→Prop} {ι:Type} (f:ι→St A) (I:ι→Prop) (m:ι→Nat) (i0:ι) (h0:I i0) (e:st=f i0)
  (step:∀i,I i→(∀j,I j→m j<m i→VLoop C E b (f j) K)→VLoop C E b (f i) K):VLoop C E b st K:=by
 have key:∀n i,m i≤n→I i→VLoop C E b (f i) K:=by
  intro n
  induction n with
  | zero=>intro i hm hi;exact step i hi fun j hj hlt=>absurd hlt (by omega)
  | succ n ih=>intro i hm hi;exact step i hi fun j hj hlt=>ih j (by omega) hj
 rw[e]
 exact key _ _ (Nat.le_refl _) h0
theorem wrap64 {n:Int} (h : -9223372036854775808≤n) (h':n≤9223372036854775807):IntKind.i64.wrap n=n:=by
 have e1:(2:Int) ^ IntKind.i64.bits=18446744073709551616:=rfl
 have e2:(2:Int) ^ (IntKind.i64.bits-1)=9223372036854775808:=rfl
 have e3:IntKind.i64.signed=true:=rfl
 simp only[IntKind.wrap,e1,e2,e3,Bool.true_and,decide_eq_true_eq]
 split<;>omega
noncomputable def vres1 [Deep A] (C:Cx A) (st:St A) (x:ResultVar) (l:Rd A (List V)):Rd A (List V):=match x with
 | .tmp t=>l.bind fun l=>.ret (evV C.G st (.tmp t)::l)
 | .cell t ty=>(vload (C.T.at ty) (evV C.G st (.tmp t))).bind fun v=>l.bind fun l=>.ret (v::l)
noncomputable def vres [Deep A] (C:Cx A) (st:St A) (l:List ResultVar):Rd A (List V):=
 List.rec (motive:=fun _=>Rd A (List V)) (.ret []) (fun x _ ih=>vres1 C st x ih) l
theorem vres_cons [Deep A] (C:Cx A) (st:St A) (x:ResultVar) (r:List ResultVar):vres C st (x::r)=vres1 C st x (vres C st r):=rfl
def retOf:List V→V
 | [v]=>v
 | l=>.tup l
noncomputable def vend [Deep A] (C:Cx A) (fn:Func) (r:V) (e:Exit) (st:St A):Prop:=match e with
 | .exit _=>False
 | _=>(vres C st fn.results.toList).wp st.get fun vs _=>forceVs vs fun vs=>(snapAll vs).wp st.get fun x _=>forceVs x.1 fun vs=>pureKs vs (retOf vs=r)
def entry (n:Nat) (args:List V):St A:={tmps:=args++List.replicate (n-args.length) .undef,objs:=List.replicate n (0,none),arena:=[]}
def resVar (tmps:Array Value):ResultVar→Sem Value
 | .tmp t=>pure (tmps.getD t undef)
 | .cell a t=>do loadVar t (←asAddr (tmps.getD a undef))
theorem results_eq (fn:Func) (tmps:Array Value):results fn tmps=(do
  let vs ←fn.results.mapM (resVar tmps)
  pure (if h:vs.size=1 then vs[0] else .tuple vs)):=rfl
theorem vres_sound [Deep A] {C:Cx A} (hE:EOk C E) {ρ:Rho} {M:Mem} {S:Name→List Nat} (h:Rel C.R E st ρ M S a w):∀{l:List ResultVar} {vs:List V} {ns:List Name},Rd.Runs st.get (vres C st l) vs ns→
  ∃vs':List Value,(l.mapM (resVar a.tmps):Sem (List Value)).run C.P w=.ok vs' w∧VsRel ρ M vs vs':=by
 intro l
 induction l with
 | nil=>intro vs ns hr;replace hr:=Runs.ret hr;subst hr;exact⟨[],rfl,.nil⟩
 | cons x r ih=>
  intro vs ns hr
  cases x with
  | tmp t=>
   rw[vres_cons] at hr;simp only[vres1] at hr
   obtain⟨l,n1,n2,h1,hr,_⟩:=hr.bind_inv
   replace hr:=Runs.ret hr;subst hr
   obtain⟨vs',q1,q2⟩:=ih h1
   have e0:(resVar a.tmps (.tmp t)).run C.P w=.ok (a.tmps.getD t undef) w:=rfl
   exact⟨_,by rw[List.mapM_cons,Sem.run_bind,e0,Result.andThen_ok,Sem.run_bind,q1];rfl,.cons (h.ev hE.G (.tmp t)) q2⟩
  | cell t ty=>
   rw[vres_cons] at hr;simp only[vres1] at hr
   obtain⟨v,n1,n2,h1,hr,_⟩:=hr.bind_inv
   obtain⟨l,n3,n4,h2,hr,_⟩:=hr.bind_inv
   replace hr:=Runs.ret hr;subst hr
   obtain⟨vs',q1,q2⟩:=ih h2
   obtain⟨v',k1,k2⟩:=vload_sound C.hR C.hT h (h.ev hE.G (.tmp t)) h1
   have e1:a.eval (.tmp t)=a.tmps.getD t undef:=rfl
   rw[e1] at k1
   have hp:∃p,a.tmps.getD t undef=.pointer (some p):=by
    cases ha:a.tmps.getD t undef with
    | pointer p=>cases p with
     | some p=>exact⟨p,rfl⟩
     | none=>rw[ha] at k1;cases k1
    | _=>rw[ha] at k1;cases k1
   obtain⟨p,hp⟩:=hp
   rw[hp] at k1
   have k3:(loadVar ty p).run C.P w=.ok v' w:=by simpa[Instr.loadAt,Instr.sureAddr] using k1
   refine⟨v'::vs',?_,.cons k2 q2⟩
   have e0:(resVar a.tmps (.cell t ty)).run C.P w=.ok v' w:=by simp[resVar,hp,asAddr,k3]
   rw[List.mapM_cons,Sem.run_bind,e0,Result.andThen_ok,Sem.run_bind,q1]
   rfl
theorem PTriple.calls {P:Program} {G:Nat→V} {f:FuncId} {args:List V} {r:V} (h:PTriple P G f args r) (hf:FnOk P f) {w:World} {M:Mem} {args':List Value} (hG:GOk G M) (hM:MemOk M w)
  (hv:VsRel (fun _=>none) M args args'):Calls P f args'.toArray w fun e w'=>∃r' M',e=.returned r'∧Grown M w M' w'∧VRel (fun _=>none) M' r r':=by
 rcases h with h|h
 ·exact h.2 w M args' hG hM hv
 ·obtain⟨v,h1,_⟩:=h w M args' hM hv
  rw[run_callFunc hf] at h1
  cases h1
theorem PTriple.of_nils {P:Program} {G:Nat→V} {f:FuncId} {sz:Nat} {r:V} (h:PTriple P G f [.lst sz []] r):PTriple P G f [.nils] r:=by
 have key:∀{M:Mem} {l:List Value},VsRel (fun _=>none) M [.nils] l→VsRel (fun _=>none) M [.lst sz []] l:=fun {M l} hv=>by
  obtain⟨v',l,rfl,h1,h2⟩:=hv.uncons
  cases h1
  exact .cons .lst0 h2
 rcases h with h|h
 ·exact .inl ⟨h.1,fun w M args' hG hM hv=>h.2 w M args' hG hM (key hv)⟩
 ·exact .inr fun w M args' hM hv=>h w M args' hM (key hv)
theorem PTriple.of_body [Deep A] {C:Cx A} {f:FuncId} {fn:Func} {c:Code} (hf:C.P.funcs[f]?=some fn) (hb:fn.body=some c) (hn:(fn.name == "runtime.NumGoroutine")=false) (hm:C.P.follows .mixedOrders=true) {args:List V} {r:V}
  (h:∀E,EOk C E→forceSt (entry fn.ntmps args) fun st=>vcode C E c st (vend C fn r)):PTriple C.P C.G f args r:=by
 refine .inl ⟨⟨fn,hf,hn,by rw[hb];rfl⟩,fun w M args' hG hM hargs=>?_⟩
 simp only[forceSt_eq] at h
 let E:Env:={w0:=w,M0:=M,ρ0:=fun _=>none,S0:=[]}
 have hE:EOk C E:=⟨hG⟩
 have hlen:args.length=args'.length:=hargs.1
 have hget:∀n ob,(entry (A:=A) fn.ntmps args).get n=some ob→False:=by
  rintro⟨n1,g⟩ ob hn
  cases n1 with
  | zero=>simp[entry,St.get] at hn
  | succ s=>
   have:=St.get_slot_gen hn
   simp only[entry] at this
   rw[List.getElem?_replicate] at this
   split at this<;>simp at this
 have hs:Sat C.R E (entry fn.ntmps args) {tmps:=args'.toArray++Array.replicate (fn.ntmps-args'.toArray.size) undef,defers:=[]} w:=by
  refine⟨fun _=>none,M,fun _=>[],{
   defers:=rfl
   tmps:=?_
   mem:=hM
   objs:=fun n ob hn=>(hget n ob hn).elim
   disj:=fun n _ ob _ hn=>(hget n ob hn).elim
   blt:=fun n ob hn=>(hget n ob hn).elim
   own:=fun n ob hn=>(hget n ob hn).elim
   fresh:=fun _ _ _=>rfl
   hsize:=Nat.le_refl _
   keep:=fun _ _ _=>rfl
   os:=rfl
   tape:=rfl
   output:=rfl
   M0:=Mem.le_refl _
   Mnew:=fun _ _ _ h=>.inl h
   ρ0:=fun _ _ h=>by cases h}⟩
  simp only[entry,Array.toList_append,Array.toList_replicate,List.size_toArray,hlen]
  refine hargs.append ⟨by simp,fun i v v' hv hv'=>?_⟩
  rw[List.getElem?_replicate] at hv
  split at hv
  ·cases hv;exact .undef _
  ·cases hv
 refine calls_of_wp hf hb (wp_mono (vcode_sound hE hm (h E hE) _ _ hs) fun e a' w' ⟨h1,st',h2,h3⟩=>?_)
 have fin:∀{vs:List V} {n1:List Name},Rd.Runs st'.get (vres C st' fn.results.toList) vs n1→(forceVs vs fun vs=>(snapAll vs).wp st'.get fun x _=>forceVs x.1 fun vs=>pureKs vs (retOf vs=r))→
   a'.defers=[]∧∃v,(results fn a'.tmps).run C.P w'=.ok v w'∧∃r' M',Ending.returned v=.returned r'∧Grown M w M' w'∧VRel (fun _=>none) M' r r':=by
  intro vs n1 k1 k2
  obtain⟨ρ,M1,S,hr⟩:=h3
  rw[forceVs_eq] at k2
  obtain⟨x,n2,k3,k2⟩:=Rd.wp_runs k2
  rw[forceVs_eq] at k2
  obtain⟨hp,hret⟩:=pureKs_ok k2
  obtain⟨vs',q1,q2⟩:=vres_sound hE hr k1
  obtain⟨M2,r1,r2,_,r4⟩:=snapAll_sound (SameRows.refl st') hr q2 k3
  have hrun:(results fn a'.tmps).run C.P w'=.ok (if h:vs'.toArray.size=1 then vs'.toArray[0] else .tuple vs'.toArray) w':=by
   rw[results_eq,Sem.run_bind,Array.mapM_eq_mapM_toList,Sem.run_map,q1]
   rfl
  refine⟨hr.defers,_,hrun,_,M2,rfl,{
   size:=r2.hsize
   heap:=fun b hb=>r2.keep b hb (by simp[E])
   os:=r2.os
   tape:=r2.tape
   output:=r2.output
   le:=r2.M0
   new:=fun b o v hv=>by
    rcases r2.Mnew b o v hv with h|h|h
    ·exact .inl h
    ·exact .inr h
    ·cases h
   mem:=r2.mem},?_⟩
  have hpure:VsRel (fun _=>none) M2 x.1 vs':=⟨r4.1,fun i v v' hv hv'=>hp v (List.mem_of_getElem? hv) _ _ _ (r4.2 i v v' hv hv')⟩
  subst hret
  match hx:x.1,hpure with
  | [],hpure=>obtain rfl:=hpure.nil_inv;exact .tup rfl (fun i v v' hv=>by simp at hv)
  | [v],hpure=>
   obtain⟨v',r',rfl,p1,p2⟩:=hpure.uncons
   obtain rfl:=p2.nil_inv
   exact p1
  | v::u::l,hpure=>
   obtain⟨v',r',rfl,p1,p2⟩:=hpure.uncons
   obtain⟨u',r'',rfl,p3,p4⟩:=p2.uncons
   have:=VRel.tup (ρ:=fun _=>none) (M:=M2) hpure.1 hpure.2
   simpa[retOf] using this
 rcases h1 with rfl|rfl|⟨id,rfl⟩
 ·obtain⟨vs,n1,k1,k2⟩:=Rd.wp_runs h2
  exact fin k1 k2
 ·obtain⟨vs,n1,k1,k2⟩:=Rd.wp_runs h2
  exact fin k1 k2
 ·exact h2.elim
end Go.Vm
