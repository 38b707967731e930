/- A part of the proofs over the seat YtbppemcdphgknaaGreatDoor. -/
import Derived.Test.YtbppemcdphgknaaGreatDoorVm28
import Derived.Lib.SliceRun
set_option linter.unusedVariables false
set_option linter.unusedSimpArgs false
set_option maxRecDepth 100000
set_option maxHeartbeats 40000000
namespace Go.Vm
open Go
section
variable {P:Program} {A:Type} {R:Rep A} {E:Env} {st:St A} {ρ:Rho} {M:Mem} {a:Act} {w:World} {G:Nat→V}
theorem CTriple.of_body [Deep A] {C:Cx A} {f:FuncId} {fn:Func} {c:Code} (hf:C.P.funcs[f]?=some fn) (hb:fn.body=some c) (hn:(fn.name == "runtime.NumGoroutine")=false) (hm:C.P.follows .mixedOrders=true) {sz len:Nat} {es:List (List V)} {rest:List V} {r:V}
  (hes:PureEs es) (hrest:∀v∈rest,PureV v)
  (h:∀E,EOk C E→forceSt (entryO fn.ntmps 0 (.rsl (0,0) sz 0 len::rest) [.row sz es false]) fun st=>vcode C E c st (vend C fn r)) (n:Name):CTriple C.P C.G C.R f (.rsl n sz 0 len::rest) n (.row sz es false) r:=by
 refine⟨⟨fn,hf,hn,by rw[hb];rfl⟩,fun w M ρ S args' hG hM hargs hob hblt=>?_⟩
 simp only[forceSt_eq] at h
 let ρi:Rho:=fun m=>if m=(0,0) then ρ n else none
 have hρ0:ρi (0,0)=ρ n:=if_pos rfl
 obtain⟨v0,rs,rfl,hv0,hvr⟩:=hargs.uncons
 have hargs1:VsRel ρi M (.rsl (0,0) sz 0 len::rest) (v0::rs):=by
  refine .cons ?_ ⟨hvr.1,fun i v v' hv hv'=>(hrest v (List.mem_of_getElem? hv) _ _ _ (hvr.2 i v v' hv hv')).mono (fun _ _ e=>by cases e) (Mem.le_refl _)⟩
  cases hv0 with
  | rsl e h1 h2=>exact .rsl (hρ0.trans e) h1 h2
  | rsl0=>exact .rsl0
 have hob1:ObRel C.R ρi M w (0,0) S (.row sz es false:Ob A):=by
  rcases hob with⟨b,o,c',ty,cs',h1,h2,h3,h4,h5,h6,h7,h8⟩|⟨h1,h2,b,o,h3⟩
  ·refine .inl ⟨b,o,c',ty,cs',h1,hρ0.trans h2,h3,h4,h5,h6,fun i k e v he hv=>?_,h8⟩
   obtain⟨v',q1,q2⟩:=h7 i k e v he hv
   exact⟨v',q1,(hes e (List.mem_of_getElem? he) v (List.mem_of_getElem? hv) _ _ _ q2).mono (fun _ _ e=>by cases e) (Mem.le_refl _)⟩
  ·exact .inr ⟨h1,h2,b,o,hρ0.trans h3⟩
 let E:Env:={w0:=w,M0:=M,ρ0:=ρi,S0:=S}
 have hE:EOk C E:=⟨hG⟩
 have hlen:(V.rsl (0,0) sz 0 len::rest).length=(v0::rs).length:=hargs1.1
 have hget:∀m ob,(entryA fn.ntmps (.rsl (0,0) sz 0 len::rest) [(.row sz es false:Ob A)]).get m=some ob→m=(0,0)∧ob=.row sz es false:=by
  rintro⟨n1,g⟩ ob hg
  cases n1 with
  | zero=>
   simp only[entryA,St.get,List.getElem?_map] at hg
   cases g with
   | zero=>simp at hg;exact⟨rfl,hg.symm⟩
   | succ g=>simp at hg
  | succ s=>
   have:=St.get_slot_gen hg
   simp only[entryA] at this
   rw[List.getElem?_replicate] at this
   split at this<;>simp at this
 have hs:Sat C.R E (entryA fn.ntmps (.rsl (0,0) sz 0 len::rest) [(.row sz es false:Ob A)]) {tmps:=(v0::rs).toArray++Array.replicate (fn.ntmps-(v0::rs).toArray.size) undef,defers:=[]} w:=by
  refine⟨ρi,M,fun _=>S,{
   defers:=rfl
   tmps:=?_
   mem:=hM
   objs:=fun m ob hg=>by
    obtain⟨rfl,rfl⟩:=hget m ob hg
    exact hob1
   disj:=fun m m' ob ob' h1 h2 hne=>by
    obtain⟨rfl,_⟩:=hget m ob h1
    obtain⟨rfl,_⟩:=hget m' ob' h2
    exact absurd rfl hne
   blt:=fun m ob hg=>hblt
   own:=fun m ob hg b hb=>.inl hb
   fresh:=fun s g _=>if_neg (fun e=>by cases e)
   hsize:=Nat.le_refl _
   keep:=fun _ _ _=>rfl
   os:=rfl
   tape:=rfl
   output:=rfl
   M0:=Mem.le_refl _
   Mnew:=fun _ _ _ h=>.inl h
   ρ0:=fun _ _ h=>h}⟩
  simp only[entryA,Array.toList_append,Array.toList_replicate,List.size_toArray,hlen]
  refine hargs1.append ⟨by simp,fun i v v' hv hv'=>?_⟩
  rw[List.getElem?_replicate] at hv
  split at hv
  ·cases hv;exact .undef _
  ·cases hv
 have hs2:Sat C.R E (entryO fn.ntmps 0 (.rsl (0,0) sz 0 len::rest) [(.row sz es false:Ob A)]) {tmps:=(v0::rs).toArray++Array.replicate (fn.ntmps-(v0::rs).toArray.size) undef,defers:=[]} w:=hs
 refine calls_of_wp hf hb (wp_mono (vcode_sound hE hm (h E hE) _ _ hs2) fun e a' w' ⟨h1,st',h2,h3⟩=>?_)
 have fin:∀{vs:List V} {n1:List Name},Rd.Runs st'.get (vres C st' fn.results.toList) vs n1→(forceVs vs fun vs=>(snapAll vs).wp st'.get fun x _=>forceVs x.1 fun vs=>pureKs vs (retOf vs=r))→
   a'.defers=[]∧∃v,(results fn a'.tmps).run C.P w'=.ok v w'∧∃r' M',Ending.returned v=.returned r'∧EPost M S w M' w'∧VRel (fun _=>none) M' r r':=by
  intro vs n1 k1 k2
  obtain⟨ρg,M1,Sg,hr⟩:=h3
  rw[forceVs_eq] at k2
  obtain⟨x,n2,k3,k2⟩:=Rd.wp_runs k2
  rw[forceVs_eq] at k2
  obtain⟨hp,hret⟩:=pureKs_ok k2
  obtain⟨vs',q1,q2⟩:=vres_sound hE hr k1
  obtain⟨M2,r1,r2,_,r4⟩:=snapAll_sound (SameRows.refl st') hr q2 k3
  have hrun:(results fn a'.tmps).run C.P w'=.ok (if h:vs'.toArray.size=1 then vs'.toArray[0] else .tuple vs'.toArray) w':=by
   rw[results_eq,Sem.run_bind,Array.mapM_eq_mapM_toList,Sem.run_map,q1]
   rfl
  refine⟨hr.defers,_,hrun,_,M2,rfl,{
   size:=r2.hsize
   heap:=fun b hb hb'=>r2.keep b hb hb'
   hos:=r2.os
   tape:=r2.tape
   output:=r2.output
   le:=r2.M0
   new:=fun b o v hv=>by
    rcases r2.Mnew b o v hv with h|h|h
    ·exact .inl h
    ·exact .inr (.inl h)
    ·exact .inr (.inr h)
   mem:=r2.mem},?_⟩
  have hpure:VsRel (fun _=>none) M2 x.1 vs':=⟨r4.1,fun i v v' hv hv'=>hp v (List.mem_of_getElem? hv) _ _ _ (r4.2 i v v' hv hv')⟩
  subst hret
  match hx:x.1,hpure with
  | [],hpure=>obtain rfl:=hpure.nil_inv;exact .tup rfl (fun i v v' hv=>by simp at hv)
  | [v],hpure=>
   obtain⟨v',r',rfl,p1,p2⟩:=hpure.uncons
   obtain rfl:=p2.nil_inv
   exact p1
  | v::u::l,hpure=>
   obtain⟨v',r',rfl,p1,p2⟩:=hpure.uncons
   obtain⟨u',r'',rfl,p3,p4⟩:=p2.uncons
   have:=VRel.tup (ρ:=fun _=>none) (M:=M2) hpure.1 hpure.2
   simpa[retOf] using this
 rcases h1 with rfl|rfl|⟨id,rfl⟩
 ·obtain⟨vs,n1,k1,k2⟩:=Rd.wp_runs h2
  exact fin k1 k2
 ·obtain⟨vs,n1,k1,k2⟩:=Rd.wp_runs h2
  exact fin k1 k2
 ·exact h2.elim
noncomputable def rend [Deep A] (C:Cx A) (fn:Func) (sz len:Nat) (es:List (List V)) (e:Exit) (st:St A):Prop:=match e with
 | .exit _=>False
 | _=>(vres C st fn.results.toList).wp st.get fun vs _=>forceVs vs fun vs=>∃n0:Name,n0.1≠0∧vs=[.rsl n0 sz 0 len]∧st.get n0=some (.row sz es false)
theorem XTriple.of_rowBody [Deep A] {C:Cx A} {f:FuncId} {fn:Func} {c:Code} (hf:C.P.funcs[f]?=some fn) (hb:fn.body=some c) (hn:(fn.name == "runtime.NumGoroutine")=false) (hm:C.P.follows .mixedOrders=true) {args:List V} {sz len:Nat} {es:List (List V)}
  (hargs0:∀v∈args,PureV v) (hes:PureEs es)
  (h:∀E,EOk C E→forceSt (entry fn.ntmps args) fun st=>vcode C E c st (rend C fn sz len es)) (d:Name):XTriple C.P C.G C.R f args [] [] d (.rsl d sz 0 len) [] (some (.row sz es false)):=by
 refine⟨⟨fn,hf,hn,by rw[hb];rfl⟩,rfl,fun w M ρ S args' hG hM hargs hd _ _ _ _=>?_⟩
 simp only[forceSt_eq] at h
 let E:Env:={w0:=w,M0:=M,ρ0:=fun _=>none,S0:=[]}
 have hE:EOk C E:=⟨hG⟩
 have hargs1:VsRel (fun _=>none) M args args':=⟨hargs.1,fun i v v' hv hv'=>hargs0 v (List.mem_of_getElem? hv) _ _ _ (hargs.2 i v v' hv hv')⟩
 have hlen:args.length=args'.length:=hargs.1
 have hget:∀n ob,(entry (A:=A) fn.ntmps args).get n=some ob→False:=by
  rintro⟨n1,g⟩ ob hn
  cases n1 with
  | zero=>simp[entry,St.get] at hn
  | succ s=>
   have:=St.get_slot_gen hn
   simp only[entry] at this
   rw[List.getElem?_replicate] at this
   split at this<;>simp at this
 have hs:Sat C.R E (entry fn.ntmps args) {tmps:=args'.toArray++Array.replicate (fn.ntmps-args'.toArray.size) undef,defers:=[]} w:=by
  refine⟨fun _=>none,M,fun _=>[],{
   defers:=rfl
   tmps:=?_
   mem:=hM
   objs:=fun n ob hn=>(hget n ob hn).elim
   disj:=fun n _ ob _ hn=>(hget n ob hn).elim
   blt:=fun n ob hn=>(hget n ob hn).elim
   own:=fun n ob hn=>(hget n ob hn).elim
   fresh:=fun _ _ _=>rfl
   hsize:=Nat.le_refl _
   keep:=fun _ _ _=>rfl
   os:=rfl
   tape:=rfl
   output:=rfl
   M0:=Mem.le_refl _
   Mnew:=fun _ _ _ h=>.inl h
   ρ0:=fun _ _ h=>by cases h}⟩
  simp only[entry,Array.toList_append,Array.toList_replicate,List.size_toArray,hlen]
  refine hargs1.append ⟨by simp,fun i v v' hv hv'=>?_⟩
  rw[List.getElem?_replicate] at hv
  split at hv
  ·cases hv;exact .undef _
  ·cases hv
 refine calls_of_wp hf hb (wp_mono (vcode_sound hE hm (h E hE) _ _ hs) fun e a' w' ⟨h1,st',h2,h3⟩=>?_)
 have fin:∀{vs:List V} {n1:List Name},Rd.Runs st'.get (vres C st' fn.results.toList) vs n1→(forceVs vs fun vs=>∃n0:Name,n0.1≠0∧vs=[.rsl n0 sz 0 len]∧st'.get n0=some (.row sz es false))→
   a'.defers=[]∧∃v,(results fn a'.tmps).run C.P w'=.ok v w'∧∃r' M' ρ' S',Ending.returned v=.returned r'∧XPost C.R ρ M S w (([]:List Name).zip ([]:List (Ob A))) d (([]:List Name).zip ([]:List (Ob A))++newOb d (some (.row sz es false))) ρ' M' S' w'∧
    ((some (.row sz es false:Ob A))=none→ρ' d=none)∧VRel ρ' M' (.rsl d sz 0 len) r':=by
  intro vs n1 k1 k2
  obtain⟨ρg,M1,Sg,hr⟩:=h3
  rw[forceVs_eq] at k2
  obtain⟨n0,k3,k4,k5⟩:=k2
  obtain⟨vs',q1,q2⟩:=vres_sound hE hr k1
  have hrun:(results fn a'.tmps).run C.P w'=.ok (if h:vs'.toArray.size=1 then vs'.toArray[0] else .tuple vs'.toArray) w':=by
   rw[results_eq,Sem.run_bind,Array.mapM_eq_mapM_toList,Sem.run_map,q1]
   rfl
  subst k4
  obtain⟨v',r',rfl,p1,p2⟩:=q2.uncons
  obtain rfl:=p2.nil_inv
  let ρ':Rho:=fun n=>if n=d then ρg n0 else ρ n
  have hρd:ρ' d=ρg n0:=if_pos rfl
  have hob:=hr.objs n0 _ k5
  refine⟨hr.defers,_,hrun,v',M1,ρ',fun _=>Sg n0,rfl,{
   le:=hr.M0
   mem:=hr.mem
   size:=hr.hsize
   hos:=hr.os
   tape:=hr.tape
   output:=hr.output
   rho:=fun n hn=>if_neg hn
   heap:=fun b hb _=>hr.keep b hb (by simp[E])
   new:=fun b o v hv=>by
    rcases hr.Mnew b o v hv with h|h|h
    ·exact .inl h
    ·exact .inr (.inl h)
    ·cases h
   objs:=fun p hp=>by
    simp only[List.zip_nil_left,List.nil_append,newOb,List.mem_singleton] at hp
    subst hp
    rcases hob with⟨b,o,c',ty,cs',h1,h2,h3,h4,h5,h6,h7,h8⟩|⟨h1,h2,b,o,h3⟩
    ·refine .inl ⟨b,o,c',ty,cs',h1,hρd.trans h2,h3,h4,h5,h6,fun i k e v he hv=>?_,h8⟩
     obtain⟨v',q1,q2⟩:=h7 i k e v he hv
     exact⟨v',q1,(hes e (List.mem_of_getElem? he) v (List.mem_of_getElem? hv) _ _ _ q2).mono (fun _ _ e=>by cases e) (Mem.le_refl _)⟩
    ·exact .inr ⟨h1,h2,b,o,hρd.trans h3⟩
   own:=fun p hp b hb=>by
    rcases hr.own n0 _ k5 b hb with h|h
    ·cases h
    ·exact .inr h
   disj:=fun p hp q hq hne=>by
    simp only[List.zip_nil_left,List.nil_append,newOb,List.mem_singleton] at hp hq
    subst hp;subst hq
    exact absurd rfl hne
   blt:=fun p hp b hb=>hr.blt n0 _ k5 b hb},(fun h=>by cases h),?_⟩
  cases p1 with
  | rsl e h1 h2=>exact .rsl (hρd.trans e) h1 h2
  | rsl0=>exact .rsl0
 rcases h1 with rfl|rfl|⟨id,rfl⟩
 ·obtain⟨vs,n1,k1,k2⟩:=Rd.wp_runs h2
  exact fin k1 k2
 ·obtain⟨vs,n1,k1,k2⟩:=Rd.wp_runs h2
  exact fin k1 k2
 ·exact h2.elim
end
end Go.Vm
namespace Go.Vm
open Go
variable {A:Type} {E:Env} {st:St A} {a:Act} {w:World}
def St.move (st:St A) (t s:Nat):St A:=match lget st.tmps t with
 | some (.rsl n sz i len)=>match st.get n with
  | some (.row sz' es fz)=>match lget st.objs s with
   | some p=>{(st.setOb n none).setOb (s+1,p.1+1) (some (.row sz' es fz)) with tmps:=lset st.tmps t (.rsl (s+1,p.1+1) sz i len)}
   | none=>st
  | _=>st
 | _=>st
theorem Sat.move [Deep A] {C:Cx A} (h:Sat C.R E st a w) (t s:Nat):Sat C.R E (st.move t s) a w:=by
 unfold St.move
 split
 ·rename_i n sz i len h1
  split
  ·rename_i sz' es fz h2
   split
   ·rename_i p h3
    rw[lget_eq] at h1 h3
    obtain⟨ρ,M,S,hr⟩:=h
    have hob:=hr.objs n _ h2
    obtain⟨x,hx⟩:∃x,ρ n=some x:=by
     rcases hob with⟨b,o,c,T,cs',_,e2,_⟩|⟨_,_,b,o,e2⟩
     ·exact⟨_,e2⟩
     ·exact⟨_,e2⟩
    have hk:=hr.kill h2
    obtain⟨o₁,hs⟩:=St.objs_kill (s:=s) (g:=p.1) (o₀:=p.2) h2 h3
    have hle:=Rho.le_new hk hs x
    have hob':ObRel C.R (fun k=>if k=(s+1,p.1+1) then some x else ρ k) M w (s+1,p.1+1) (S n) (.row sz' es fz):=by
     rcases hob with⟨b,o,c,T,cs',e1,e2,e3,e4,e5,e6,e7,e8⟩|⟨e1,e2,b,o,e3⟩
     ·refine .inl ⟨b,o,c,T,cs',e1,by simp[←e2,hx],e3,e4,e5,e6,fun i k e v hi hk=>?_,e8⟩
      obtain⟨v',q1,q2⟩:=e7 i k e v hi hk
      exact⟨v',q1,q2.mono hle (Mem.le_refl _)⟩
     ·exact .inr ⟨e1,e2,b,o,by simp[←e3,hx]⟩
    have hn:=hk.new (M':=M) (w':=w) (T:=S n) (x:=x) hs hob' (fun b hb=>⟨hr.blt n _ h2 b hb,hr.own n _ h2 b hb,fun n' ob' hn' _=>by
      rcases St.get_setOb_live h2 _ hn' with⟨_,h5⟩|h5
      ·cases h5
      ·exact hr.disj n n' _ _ h2 h5.2 (Ne.symm h5.1) b hb⟩) (Mem.le_refl _) (fun _ _ _ hv=>.inl hv)
     (fun _ _ _ _ _ _ _=>rfl) hk.mem (fun _ _ _ _ _ _=>rfl) (fun _ _ _=>rfl) (Nat.le_refl _) rfl rfl rfl
    obtain⟨v',hv',hv⟩:=hr.tmps.get h1
    refine⟨_,M,_,{hn with defers:=hn.defers,tmps:=?_}⟩
    have ht:=hn.tmps
    rw[St.tmps_setOb,St.tmps_setOb] at ht
    show VsRel _ M (lset st.tmps t (.rsl (s+1,p.1+1) sz i len)) _
    rw[lset_eq]
    refine⟨by simpa using ht.1,fun j v u hi hu=>?_⟩
    rw[List.getElem?_set] at hi
    split at hi
    ·rename_i e
     subst e
     split at hi
     ·cases hi
      rw[hv'] at hu
      cases hu
      cases hv with
      | rsl q1 q2 q3=>exact .rsl (by simp[←hx,q1]) q2 q3
      | rsl0=>exact .rsl0
     ·cases hi
    ·exact ht.2 j v u hi hu
   ·exact h
  ·exact h
 ·exact h
theorem VLoop.move [Deep A] {C:Cx A} {b:Code} {K:Exit→St A→Prop} (t s:Nat) (h:forceSt (st.move t s) fun st=>VLoop C E b st K):VLoop C E b st K:=by
 rw[forceSt_eq] at h
 unfold VLoop at h ⊢
 exact fun a w hs=>h a w (hs.move t s)
end Go.Vm
namespace Go.Vm
open Go
variable {A:Type} {E:Env} {st:St A} {a:Act} {w:World}
end Go.Vm
namespace Go.Vm
open Go
section
variable {P:Program} {A:Type} {R:Rep A} {E:Env} {st:St A} {ρ:Rho} {M:Mem} {a:Act} {w:World} {G:Nat→V}
def yok (r:V) (nws:List (Ob A)) (vs:List V) (st:St A):Prop:=
 ∃ns:List Name,(ns.length=nws.length∧ns.Nodup∧∀p∈ns.zip nws,st.get p.1=some p.2)∧retOf vs=renG1 (nameAt ns) r
noncomputable def yend [Deep A] (C:Cx A) (fn:Func) (r:V) (nws:List (Ob A)) (e:Exit) (st:St A):Prop:=match e with
 | .exit _=>False
 | _=>(vres C st fn.results.toList).wp st.get fun vs _=>forceVs vs fun vs=>(snapAll vs).wp st.get fun x _=>forceVs x.1 fun vs=>setObsK x.2 st fun st2=>∃l,vweak l st2 fun st3=>yok r nws vs st3
theorem YTriple.of_body [Deep A] {C:Cx A} {f:FuncId} {fn:Func} {c:Code} (hf:C.P.funcs[f]?=some fn) (hb:fn.body=some c) (hn:(fn.name == "runtime.NumGoroutine")=false) (hm:C.P.follows .mixedOrders=true) {args:List V} {r:V} {nws:List (Ob A)}
  (hargs0:∀v∈args,PureV v) (k1:nws.length≤2) (k2:okG nws.length r) (k3:∀ob∈nws,okOb 0 ob) (k:Nat)
  (h:∀E,EOk C E→forceSt (entryO fn.ntmps k args []) fun st=>vcode C E c st (yend C fn r nws)):YTriple C.P C.G C.R f args r nws:=by
 refine⟨⟨k1,k2,k3⟩,⟨fn,hf,hn,by rw[hb];rfl⟩,fun w M args' hG hM hargs=>?_⟩
 simp only[forceSt_eq] at h
 let E:Env:={w0:=w,M0:=M,ρ0:=fun _=>none,S0:=[]}
 have hE:EOk C E:=⟨hG⟩
 have hlen:args.length=args'.length:=hargs.1
 have hget:∀n ob,(entryA (A:=A) fn.ntmps args []).get n=some ob→False:=by
  rintro⟨n1,g⟩ ob hn
  cases n1 with
  | zero=>simp[entryA,St.get] at hn
  | succ s=>
   have:=St.get_slot_gen hn
   simp only[entryA] at this
   rw[List.getElem?_replicate] at this
   split at this<;>simp at this
 have hs:Sat C.R E (entryA fn.ntmps args []) {tmps:=args'.toArray++Array.replicate (fn.ntmps-args'.toArray.size) undef,defers:=[]} w:=by
  refine⟨fun _=>none,M,fun _=>[],{
   defers:=rfl
   tmps:=?_
   mem:=hM
   objs:=fun n ob hn=>(hget n ob hn).elim
   disj:=fun n _ ob _ hn=>(hget n ob hn).elim
   blt:=fun n ob hn=>(hget n ob hn).elim
   own:=fun n ob hn=>(hget n ob hn).elim
   fresh:=fun _ _ _=>rfl
   hsize:=Nat.le_refl _
   keep:=fun _ _ _=>rfl
   os:=rfl
   tape:=rfl
   output:=rfl
   M0:=Mem.le_refl _
   Mnew:=fun _ _ _ h=>.inl h
   ρ0:=fun _ _ h=>by cases h}⟩
  simp only[entryA,Array.toList_append,Array.toList_replicate,List.size_toArray,hlen]
  refine hargs.append ⟨by simp,fun i v v' hv hv'=>?_⟩
  rw[List.getElem?_replicate] at hv
  split at hv
  ·cases hv;exact .undef _
  ·cases hv
 have hs2:Sat C.R E (entryO fn.ntmps k args []) {tmps:=args'.toArray++Array.replicate (fn.ntmps-args'.toArray.size) undef,defers:=[]} w:=by
  have:=hs.weak (Weak.more k)
  rw[show(entryA (A:=A) fn.ntmps args []).objs++List.replicate k (0,none)=List.replicate (fn.ntmps+k) (0,none) by simp[entryA]] at this
  exact this
 refine calls_of_wp hf hb (wp_mono (vcode_sound hE hm (h E hE) _ _ hs2) fun e a' w' ⟨h1,st',h2,h3⟩=>?_)
 have fin:∀{vs:List V} {n1:List Name},Rd.Runs st'.get (vres C st' fn.results.toList) vs n1→(forceVs vs fun vs=>(snapAll vs).wp st'.get fun x _=>forceVs x.1 fun vs=>setObsK x.2 st' fun st2=>∃l,vweak l st2 fun st3=>yok r nws vs st3)→
   a'.defers=[]∧∃v,(results fn a'.tmps).run C.P w'=.ok v w'∧∃(r':Value) (M':Mem) (ρc:Rho) (Ss:Nat→List Nat),Ending.returned v=.returned r'∧Grown M w M' w'∧
    (∀(i:Nat) (ob:Ob A),nws[i]?=some ob→ObRel C.R ρc M' w' (0,i) (Ss i) ob∧∀b∈Ss i,w.heap.size≤b∧b<w'.heap.size)∧(∀i j:Nat,i<nws.length→j<nws.length→i≠j→∀b∈Ss i,b∉Ss j)∧VRel ρc M' r r':=by
  intro vs n1 q1 q2
  obtain⟨ρf,M1,Sf,hr⟩:=h3
  rw[forceVs_eq] at q2
  obtain⟨x,n2,q3,q2⟩:=Rd.wp_runs q2
  rw[forceVs_eq,setObsK_eq] at q2
  obtain⟨vs',p1,p2⟩:=vres_sound hE hr q1
  obtain⟨M2,r1,r2,_,r4⟩:=snapAll_sound (SameRows.refl st') hr p2 q3
  obtain⟨l,q2⟩:=q2
  obtain⟨st3,hw3,q2⟩:=vweak_ok (C:=C) (E:=E) q2
  obtain⟨ρg,M3,Sg,hleg,r3⟩:=hw3 _ _ _ _ _ r2
  replace r4:=r4.mono hleg.1 hleg.2
  have hrun:(results fn a'.tmps).run C.P w'=.ok (if h:vs'.toArray.size=1 then vs'.toArray[0] else .tuple vs'.toArray) w':=by
   rw[results_eq,Sem.run_bind,Array.mapM_eq_mapM_toList,Sem.run_map,p1]
   rfl
  have hret:VRel ρg M3 (retOf x.1) (if h:vs'.toArray.size=1 then vs'.toArray[0] else .tuple vs'.toArray):=by
   match hx:x.1,r4 with
   | [],r4=>obtain rfl:=r4.nil_inv;exact .tup rfl (fun i v v' hv=>by simp at hv)
   | [v],r4=>
    obtain⟨v',r',rfl,z1,z2⟩:=r4.uncons
    obtain rfl:=z2.nil_inv
    exact z1
   | v::u::l,r4=>
    obtain⟨v',r',rfl,z1,z2⟩:=r4.uncons
    obtain⟨u',r'',rfl,z3,z4⟩:=z2.uncons
    have:=VRel.tup (ρ:=ρg) (M:=M3) r4.1 r4.2
    simpa[retOf] using this
  obtain⟨ns,⟨n1,n2,n3⟩,n4⟩:=q2
  rw[n4] at hret
  have hnm:∀(i:Nat),i<nws.length→∃n,ns[i]?=some n∧nameAt ns (0,i)=n:=fun i hi=>by
   refine⟨ns[i]'(by omega),List.getElem?_eq_getElem _,nameAt_get (List.getElem?_eq_getElem _)⟩
  have hlv:∀(i:Nat) (ob:Ob A),nws[i]?=some ob→st3.get (nameAt ns (0,i))=some ob:=fun i ob hi=>by
   obtain⟨n,m1,m2⟩:=hnm i (List.getElem?_eq_some_iff.1 hi).1
   rw[m2]
   exact n3 (n,ob) (zip_iff.2 ⟨i,m1,hi⟩)
  refine⟨hr.defers,_,hrun,_,M3,fun n=>ρg (nameAt ns n),fun i=>Sg (nameAt ns (0,i)),rfl,{
   size:=r3.hsize
   heap:=fun b hb=>r3.keep b hb (by simp[E])
   os:=r3.os
   tape:=r3.tape
   output:=r3.output
   le:=r3.M0
   new:=fun b o v hv=>by
    rcases r3.Mnew b o v hv with h|h|h
    ·exact .inl h
    ·exact .inr h
    ·cases h
   mem:=r3.mem},fun i ob hi=>⟨(r3.objs _ _ (hlv i ob hi)).rename0 (k3 ob (List.mem_of_getElem? hi)) rfl,fun b hb=>⟨?_,r3.blt _ _ (hlv i ob hi) b hb⟩⟩,fun i j hi hj hij b hb=>?_,renG1_down (m:=nws.length) (fun n hn=>rfl) hret k2⟩
  ·rcases r3.own _ _ (hlv i ob hi) b hb with h|h
   ·cases h
   ·exact h
  ·refine r3.disj _ _ _ _ (hlv i _ (List.getElem?_eq_getElem hi)) (hlv j _ (List.getElem?_eq_getElem hj)) (fun e=>?_) b hb
   obtain⟨a1,m1,m2⟩:=hnm i hi
   obtain⟨a2,m3,m4⟩:=hnm j hj
   rw[m2,m4] at e
   subst e
   exact hij ((List.getElem?_inj (by omega) n2).1 (m1.trans m3.symm))
 rcases h1 with rfl|rfl|⟨id,rfl⟩
 ·obtain⟨vs,n1,k1,k2⟩:=Rd.wp_runs h2
  exact fin k1 k2
 ·obtain⟨vs,n1,k1,k2⟩:=Rd.wp_runs h2
  exact fin k1 k2
 ·exact h2.elim
theorem ATriple.res {f:FuncId} {args:List V} {obs obs':List (Ob A)} {r r':V} {nw:Option (Ob A)} (h:ATriple P G R f args obs r obs' nw) (hk:okG (obs.length+1) r') (hr:∀ρ M v,VRel ρ M r v→VRel ρ M r' v):ATriple P G R f args obs r' obs' nw:=by
 obtain⟨⟨k1,k2,_,k4,k5⟩,h1,h2,h3⟩:=h
 refine⟨⟨k1,k2,hk,k4,k5⟩,h1,h2,fun w M ρ S args' q1 q2 q3 q4 q5 q6 q7 q8=>Calls.mono (h3 w M ρ S args' q1 q2 q3 q4 q5 q6 q7 q8) ?_⟩
 rintro e w' ⟨v,M',ρ',S',he,hx,hn,hv⟩
 exact⟨v,M',ρ',S',he,hx,hn,hr _ _ _ hv⟩
theorem ATriple.to_lst {f:FuncId} {args:List V} {obs obs':List (Ob A)} {sz:Nat} {nw:Option (Ob A)} (h:ATriple P G R f args obs .nils obs' nw):ATriple P G R f args obs (.lst sz []) obs' nw:=
 h.res (fun _ he=>by cases he) fun _ _ _ h=>h.lst_of_nils
theorem ATriple.callK {f:FuncId} {args:List V} {obs:List (Ob A)} {r:V} (h:ATriple P G R f args obs r obs none) {N:List Name} {vs:List V} {obs0:List (Ob A)} (hl:N.length=obs.length)
  (hv:∀d,args.map (renA1 (nameAt (N++[d])))=vs) (ho:∀d,obs.map (renO1 (nameAt (N++[d])))=obs0) (hr:∀d,renG1 (nameAt (N++[d])) r=r):∀d,XTriple P G R f vs N obs0 d r obs0 none:=fun d=>by
 have:=h.at N d hl
 rw[hv d,ho d,hr d] at this
 exact this
end
end Go.Vm
namespace Go.Vm
open Go
variable {A:Type} {E:Env} {st:St A} {a:Act} {w:World}
theorem PTriple.of_vwp [Deep A] {C:Cx A} {f:FuncId} {fn:Func} {c:Code} (hf:C.P.funcs[f]?=some fn) (hb:fn.body=some c) (hn:(fn.name == "runtime.NumGoroutine")=false) {args:List V} {r:V}
  (h:∀E,EOk C E→VWp C E c (entry fn.ntmps args) fun e st=>∃r',(∀ρ M x,VRel ρ M r' x→VRel ρ M r x)∧vend C fn r' e st):PTriple C.P C.G f args r:=by
 refine .inl ⟨⟨fn,hf,hn,by rw[hb];rfl⟩,fun w M args' hG hM hargs=>?_⟩
 let E:Env:={w0:=w,M0:=M,ρ0:=fun _=>none,S0:=[]}
 have hE:EOk C E:=⟨hG⟩
 have hlen:args.length=args'.length:=hargs.1
 have hget:∀n ob,(entry (A:=A) fn.ntmps args).get n=some ob→False:=by
  rintro⟨n1,g⟩ ob hn
  cases n1 with
  | zero=>simp[entry,St.get] at hn
  | succ s=>
   have:=St.get_slot_gen hn
   simp only[entry] at this
   rw[List.getElem?_replicate] at this
   split at this<;>simp at this
 have hs:Sat C.R E (entry fn.ntmps args) {tmps:=args'.toArray++Array.replicate (fn.ntmps-args'.toArray.size) undef,defers:=[]} w:=by
  refine⟨fun _=>none,M,fun _=>[],{
   defers:=rfl
   tmps:=?_
   mem:=hM
   objs:=fun n ob hn=>(hget n ob hn).elim
   disj:=fun n _ ob _ hn=>(hget n ob hn).elim
   blt:=fun n ob hn=>(hget n ob hn).elim
   own:=fun n ob hn=>(hget n ob hn).elim
   fresh:=fun _ _ _=>rfl
   hsize:=Nat.le_refl _
   keep:=fun _ _ _=>rfl
   os:=rfl
   tape:=rfl
   output:=rfl
   M0:=Mem.le_refl _
   Mnew:=fun _ _ _ h=>.inl h
   ρ0:=fun _ _ h=>by cases h}⟩
  simp only[entry,Array.toList_append,Array.toList_replicate,List.size_toArray,hlen]
  refine hargs.append ⟨by simp,fun i v v' hv hv'=>?_⟩
  rw[List.getElem?_replicate] at hv
  split at hv
  ·cases hv;exact .undef _
  ·cases hv
 refine calls_of_wp hf hb (wp_mono (h E hE _ _ hs) fun e a' w' ⟨h1,st',h2,h3⟩=>?_)
 obtain⟨rr,hN,h2⟩:=h2
 have fin:∀{vs:List V} {n1:List Name},Rd.Runs st'.get (vres C st' fn.results.toList) vs n1→(forceVs vs fun vs=>(snapAll vs).wp st'.get fun x _=>forceVs x.1 fun vs=>pureKs vs (retOf vs=rr))→
   a'.defers=[]∧∃v,(results fn a'.tmps).run C.P w'=.ok v w'∧∃r' M',Ending.returned v=.returned r'∧Grown M w M' w'∧VRel (fun _=>none) M' r r':=by
  intro vs n1 k1 k2
  obtain⟨ρ,M1,S,hr⟩:=h3
  rw[forceVs_eq] at k2
  obtain⟨x,n2,k3,k2⟩:=Rd.wp_runs k2
  rw[forceVs_eq] at k2
  obtain⟨hp,hret⟩:=pureKs_ok k2
  obtain⟨vs',q1,q2⟩:=vres_sound hE hr k1
  obtain⟨M2,r1,r2,_,r4⟩:=snapAll_sound (SameRows.refl st') hr q2 k3
  have hrun:(results fn a'.tmps).run C.P w'=.ok (if h:vs'.toArray.size=1 then vs'.toArray[0] else .tuple vs'.toArray) w':=by
   rw[results_eq,Sem.run_bind,Array.mapM_eq_mapM_toList,Sem.run_map,q1]
   rfl
  refine⟨hr.defers,_,hrun,_,M2,rfl,{
   size:=r2.hsize
   heap:=fun b hb=>r2.keep b hb (by simp[E])
   os:=r2.os
   tape:=r2.tape
   output:=r2.output
   le:=r2.M0
   new:=fun b o v hv=>by
    rcases r2.Mnew b o v hv with h|h|h
    ·exact .inl h
    ·exact .inr h
    ·cases h
   mem:=r2.mem},?_⟩
  have hpure:VsRel (fun _=>none) M2 x.1 vs':=⟨r4.1,fun i v v' hv hv'=>hp v (List.mem_of_getElem? hv) _ _ _ (r4.2 i v v' hv hv')⟩
  refine hN _ _ _ ?_
  subst hret
  match hx:x.1,hpure with
  | [],hpure=>obtain rfl:=hpure.nil_inv;exact .tup rfl (fun i v v' hv=>by simp at hv)
  | [v],hpure=>
   obtain⟨v',r',rfl,p1,p2⟩:=hpure.uncons
   obtain rfl:=p2.nil_inv
   exact p1
  | v::u::l,hpure=>
   obtain⟨v',r',rfl,p1,p2⟩:=hpure.uncons
   obtain⟨u',r'',rfl,p3,p4⟩:=p2.uncons
   have:=VRel.tup (ρ:=fun _=>none) (M:=M2) hpure.1 hpure.2
   simpa[retOf] using this
 rcases h1 with rfl|rfl|⟨id,rfl⟩
 ·obtain⟨vs,n1,k1,k2⟩:=Rd.wp_runs h2
  exact fin k1 k2
 ·obtain⟨vs,n1,k1,k2⟩:=Rd.wp_runs h2
  exact fin k1 k2
 ·exact h2.elim
theorem XTriple.of_rowVwp [Deep A] {C:Cx A} {f:FuncId} {fn:Func} {c:Code} (hf:C.P.funcs[f]?=some fn) (hb:fn.body=some c) (hn:(fn.name == "runtime.NumGoroutine")=false) {args:List V} {sz len:Nat} {es:List (List V)}
  (hargs0:∀v∈args,PureV v) (hes:PureEs es)
  (h:∀E,EOk C E→VWp C E c (entry fn.ntmps args) (rend C fn sz len es)) (d:Name):XTriple C.P C.G C.R f args [] [] d (.rsl d sz 0 len) [] (some (.row sz es false)):=by
 refine⟨⟨fn,hf,hn,by rw[hb];rfl⟩,rfl,fun w M ρ S args' hG hM hargs hd _ _ _ _=>?_⟩
 let E:Env:={w0:=w,M0:=M,ρ0:=fun _=>none,S0:=[]}
 have hE:EOk C E:=⟨hG⟩
 have hargs1:VsRel (fun _=>none) M args args':=⟨hargs.1,fun i v v' hv hv'=>hargs0 v (List.mem_of_getElem? hv) _ _ _ (hargs.2 i v v' hv hv')⟩
 have hlen:args.length=args'.length:=hargs.1
 have hget:∀n ob,(entry (A:=A) fn.ntmps args).get n=some ob→False:=by
  rintro⟨n1,g⟩ ob hn
  cases n1 with
  | zero=>simp[entry,St.get] at hn
  | succ s=>
   have:=St.get_slot_gen hn
   simp only[entry] at this
   rw[List.getElem?_replicate] at this
   split at this<;>simp at this
 have hs:Sat C.R E (entry fn.ntmps args) {tmps:=args'.toArray++Array.replicate (fn.ntmps-args'.toArray.size) undef,defers:=[]} w:=by
  refine⟨fun _=>none,M,fun _=>[],{
   defers:=rfl
   tmps:=?_
   mem:=hM
   objs:=fun n ob hn=>(hget n ob hn).elim
   disj:=fun n _ ob _ hn=>(hget n ob hn).elim
   blt:=fun n ob hn=>(hget n ob hn).elim
   own:=fun n ob hn=>(hget n ob hn).elim
   fresh:=fun _ _ _=>rfl
   hsize:=Nat.le_refl _
   keep:=fun _ _ _=>rfl
   os:=rfl
   tape:=rfl
   output:=rfl
   M0:=Mem.le_refl _
   Mnew:=fun _ _ _ h=>.inl h
   ρ0:=fun _ _ h=>by cases h}⟩
  simp only[entry,Array.toList_append,Array.toList_replicate,List.size_toArray,hlen]
  refine hargs1.append ⟨by simp,fun i v v' hv hv'=>?_⟩
  rw[List.getElem?_replicate] at hv
  split at hv
  ·cases hv;exact .undef _
  ·cases hv
 refine calls_of_wp hf hb (wp_mono (h E hE _ _ hs) fun e a' w' ⟨h1,st',h2,h3⟩=>?_)
 have fin:∀{vs:List V} {n1:List Name},Rd.Runs st'.get (vres C st' fn.results.toList) vs n1→(forceVs vs fun vs=>∃n0:Name,n0.1≠0∧vs=[.rsl n0 sz 0 len]∧st'.get n0=some (.row sz es false))→
   a'.defers=[]∧∃v,(results fn a'.tmps).run C.P w'=.ok v w'∧∃r' M' ρ' S',Ending.returned v=.returned r'∧XPost C.R ρ M S w (([]:List Name).zip ([]:List (Ob A))) d (([]:List Name).zip ([]:List (Ob A))++newOb d (some (.row sz es false))) ρ' M' S' w'∧
    ((some (.row sz es false:Ob A))=none→ρ' d=none)∧VRel ρ' M' (.rsl d sz 0 len) r':=by
  intro vs n1 k1 k2
  obtain⟨ρg,M1,Sg,hr⟩:=h3
  rw[forceVs_eq] at k2
  obtain⟨n0,k3,k4,k5⟩:=k2
  obtain⟨vs',q1,q2⟩:=vres_sound hE hr k1
  have hrun:(results fn a'.tmps).run C.P w'=.ok (if h:vs'.toArray.size=1 then vs'.toArray[0] else .tuple vs'.toArray) w':=by
   rw[results_eq,Sem.run_bind,Array.mapM_eq_mapM_toList,Sem.run_map,q1]
   rfl
  subst k4
  obtain⟨v',r',rfl,p1,p2⟩:=q2.uncons
  obtain rfl:=p2.nil_inv
  let ρ':Rho:=fun n=>if n=d then ρg n0 else ρ n
  have hρd:ρ' d=ρg n0:=if_pos rfl
  have hob:=hr.objs n0 _ k5
  refine⟨hr.defers,_,hrun,v',M1,ρ',fun _=>Sg n0,rfl,{
   le:=hr.M0
   mem:=hr.mem
   size:=hr.hsize
   hos:=hr.os
   tape:=hr.tape
   output:=hr.output
   rho:=fun n hn=>if_neg hn
   heap:=fun b hb _=>hr.keep b hb (by simp[E])
   new:=fun b o v hv=>by
    rcases hr.Mnew b o v hv with h|h|h
    ·exact .inl h
    ·exact .inr (.inl h)
    ·cases h
   objs:=fun p hp=>by
    simp only[List.zip_nil_left,List.nil_append,newOb,List.mem_singleton] at hp
    subst hp
    rcases hob with⟨b,o,c',ty,cs',h1,h2,h3,h4,h5,h6,h7,h8⟩|⟨h1,h2,b,o,h3⟩
    ·refine .inl ⟨b,o,c',ty,cs',h1,hρd.trans h2,h3,h4,h5,h6,fun i k e v he hv=>?_,h8⟩
     obtain⟨v',q1,q2⟩:=h7 i k e v he hv
     exact⟨v',q1,(hes e (List.mem_of_getElem? he) v (List.mem_of_getElem? hv) _ _ _ q2).mono (fun _ _ e=>by cases e) (Mem.le_refl _)⟩
    ·exact .inr ⟨h1,h2,b,o,hρd.trans h3⟩
   own:=fun p hp b hb=>by
    rcases hr.own n0 _ k5 b hb with h|h
    ·cases h
    ·exact .inr h
   disj:=fun p hp q hq hne=>by
    simp only[List.zip_nil_left,List.nil_append,newOb,List.mem_singleton] at hp hq
    subst hp;subst hq
    exact absurd rfl hne
   blt:=fun p hp b hb=>hr.blt n0 _ k5 b hb},(fun h=>by cases h),?_⟩
  cases p1 with
  | rsl e h1 h2=>exact .rsl (hρd.trans e) h1 h2
  | rsl0=>exact .rsl0
 rcases h1 with rfl|rfl|⟨id,rfl⟩
 ·obtain⟨vs,n1,k1,k2⟩:=Rd.wp_runs h2
  exact fin k1 k2
 ·obtain⟨vs,n1,k1,k2⟩:=Rd.wp_runs h2
  exact fin k1 k2
 ·exact h2.elim
theorem XTriple.of_p {P:Program} {G:Nat→V} {R:Rep A} {f:FuncId} {args:List V} {r:V} (h:PTriple P G f args r) (hf:FnOk P f) (hp:∀v∈args,PureV v) (d:Name):XTriple P G R f args [] [] d r [] none:=by
 refine⟨hf,rfl,fun w M ρ S args' hG hM hargs hd _ _ _ _=>?_⟩
 have hargs1:VsRel (fun _=>none) M args args':=⟨hargs.1,fun i v v' hv hv'=>hp v (List.mem_of_getElem? hv) _ _ _ (hargs.2 i v v' hv hv')⟩
 refine(h.calls hf hG hM hargs1).mono fun e w' ⟨r',M',he,g,hv⟩=>?_
 refine⟨r',M',ρ,S,he,{le:=g.le,mem:=g.mem,size:=g.size,hos:=g.os,tape:=g.tape,output:=g.output,rho:=fun _ _=>rfl,heap:=fun b hb _=>g.heap b hb,new:=fun b o v hv=>?_,objs:=fun p hp=>?_,own:=fun p hp=>?_,disj:=fun p hp=>?_,blt:=fun p hp=>?_},fun _=>hd,hv.mono (fun _ _ e=>by cases e) (Mem.le_refl _)⟩
 ·rcases g.new b o v hv with h|h
  ·exact .inl h
  ·exact .inr (.inl h)
 all_goals simp[newOb] at hp
theorem VRel.slice_nil {ρ:Rho} {M:Mem} {v:V} {x:Value} (h:VRel ρ M v x) (hs:v=.nils∨∃sz es,v=.lst sz es):∃p n c,x=.slice p n c∧(p.isNone=true→v=.nils∨∃sz,v=.lst sz []):=by
 rcases hs with rfl|⟨sz,es,rfl⟩
 ·cases h;exact⟨_,_,_,rfl,fun _=>.inl rfl⟩
 ·cases h with
  | lst0=>exact⟨_,_,_,rfl,fun _=>.inr ⟨_,rfl⟩⟩
  | lst _ _ _ _ _=>exact⟨_,_,_,rfl,fun h=>by cases h⟩
theorem VWp.nilq [Deep A] {C:Cx A} (hE:EOk C E) {id:Nat} {o1 o2:Oper} {K:Exit→St A→Prop} {v:V} {s d1 d2:Nat} {t yt:TypeId} {e:Nat}
  (p1:o1.op=.move (.tmp s)) (p2:o1.dst=some d1) (p3:o1.guard=none) (q1:o2.op=.binOp .eql t (.tmp d1) (.const (.slice none 0 0)) yt) (q2:o2.dst=some d2) (q3:o2.guard=none)
  (hT:(C.T.at t).kind=.slice e) (hv:evV C.G st (.tmp s)=v) (hd:evV C.G (st.put (some d1) v) (.tmp d1)=v) (hs:v=.nils∨∃sz es,v=.lst sz es)
  (hK:∀b:Bool,(b=true→v=.nils∨∃sz,v=.lst sz [])→K .normal ((st.put (some d1) v).put (some d2) (.bool b))) :
  VWp C E (.region id #[o1,o2] false) st K:=fun a w hsat=>by
 refine wp_region_list ?_
 show wpList _ _ _ [o1,o2] a w
 refine wpList_step fun next hn=>?_
 rw[if_pos (by simp[Region.wanted,p3])]
 obtain⟨ρ,M,S,hr⟩:=hsat
 have e1:=hr.ev hE.G (.tmp s)
 rw[hv] at e1
 refine OpRuns.wp (sat_pure hr (o:=o1) e1 (by simp[execOp,p1])) fun a1 w1 hs1=>hn _ _ ?_
 refine wpList_step fun next2 hn2=>?_
 rw[if_pos (by simp[Region.wanted,q3])]
 obtain⟨ρ1,M1,S1,hr1⟩:=hs1
 have e2:=hr1.ev hE.G (.tmp d1)
 have hst:st.app o1.dst {dst:=v}=st.put (some d1) v:=by rw[p2];rfl
 rw[hst] at hr1 e2
 rw[hd] at e2
 obtain⟨p,n,c,hx,hb⟩:=e2.slice_nil hs
 have hrun:(execOp a1.eval o2).run C.P w1=.ok (.value (.bool p.isNone)) w1:=by
  have:=Lib.run_eql_slice_nil w1 t e p n c 0 0 (C.hT.slice hT)
  simp only[execOp,q1]
  rw[hx]
  rw[show a1.eval (Operand.const (Value.slice none 0 0))=Value.slice none 0 0 from rfl]
  simp[eqGuard,this]
 refine OpRuns.wp (sat_pure hr1 (o:=o2) (.bool p.isNone) hrun) fun a2 w2 hs2=>hn2 _ _ ?_
 rw[q2] at hs2
 exact⟨.inl rfl,_,hK p.isNone hb,hs2⟩
end Go.Vm
namespace Go.Vm
open Go
section
variable {P:Program} {G:Nat→V} {ρ:Rho} {M:Mem} {w:World}
end
section
variable {A:Type} {R:Rep A} {E:Env} {st:St A}
end
end Go.Vm
namespace Go.Vm
open Go
section
variable {A:Type} {R:Rep A} {E:Env} {st:St A} {a:Act} {w:World}
theorem Weak.snapR {n m:Name} {sz sz2 j len:Nat} {es es2:List (List V)} {fz fz2:Bool} (hn:st.get n=some (.row sz es fz)) {i k:Nat} {e:List V} (he:es[i]?=some e) (hk:e[k]?=some (.rsl m sz2 j len))
  (hm:st.get m=some (.row sz2 es2 fz2)) (hnm:n≠m) (hl:j+len≤es2.length):Weak R E st ((st.setOb m (some (.row sz2 es2 true))).setOb n (some (.row sz (es.set i (e.set k (.lst sz2 ((es2.drop j).take len)))) fz))):=fun ρ M S a w h=>by
 obtain⟨M',f1,f2,f3⟩:=h.freeze hm
 have hn':(st.setOb m (some (Ob.row sz2 es2 true))).get n=some (.row sz es fz):=St.get_setOb_ne hm hn hnm _
 refine⟨ρ,M',_,⟨Rho.le_refl _,f1⟩,f2.reob hn' (ob':=.row sz (es.set i (e.set k (.lst sz2 ((es2.drop j).take len)))) fz) (T:=S n) ?_ fun b hb=>⟨f2.blt n _ hn' b hb,f2.own n _ hn' b hb,fun n' ob1 h1 h2=>f2.disj n n' _ _ hn' h1 (Ne.symm h2) b hb⟩⟩
 rcases f2.objs n _ hn' with⟨b,o,c,T,cs',e1,e2,e3,e4,e5,e6,e7,e8⟩|⟨rfl,_,_⟩
 ·refine .inl ⟨b,o,c,T,cs',e1,e2,e3,e4,by rw[List.length_set];exact e5,fun x hx=>?_,fun i' k' x v hi hv=>?_,fun q hq=>by rw[List.length_set];exact e8 q hq⟩
  ·obtain⟨q,hq⟩:=List.mem_iff_getElem?.1 hx
   rw[List.getElem?_set] at hq
   split at hq
   ·split at hq
    ·cases hq;rw[List.length_set];exact e6 e (List.mem_of_getElem? he)
    ·cases hq
   ·exact e6 x (List.mem_of_getElem? hq)
  ·rw[List.getElem?_set] at hi
   split at hi
   ·rename_i hii
    subst hii
    split at hi
    ·cases hi
     rw[List.getElem?_set] at hv
     split at hv
     ·rename_i hkk
      subst hkk
      split at hv
      ·cases hv
       obtain⟨v',q1,q2⟩:=e7 i k e _ he hk
       refine⟨v',q1,f3 j len v' hl ?_⟩
       cases q2 with
       | rsl a b c=>exact .rsl a b c
       | rsl0=>exact .rsl0
      ·cases hv
     ·exact e7 i k' e v he hv
    ·cases hi
   ·exact e7 i' k' x v hi hv
 ·simp at he
theorem VWp.weak [Deep A] {C:Cx A} {c:Code} {st':St A} {K:Exit→St A→Prop} (hw:Weak C.R E st st') (h:VWp C E c st' K):VWp C E c st K:=fun a w hs=>h a w (hs.weak hw)
end
section
variable {P:Program} {A:Type} {R:Rep A} {G:Nat→V}
end
end Go.Vm
