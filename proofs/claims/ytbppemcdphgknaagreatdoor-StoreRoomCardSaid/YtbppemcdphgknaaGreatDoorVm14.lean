/- A part of the proofs over the seat YtbppemcdphgknaaGreatDoor. -/
import Derived.Test.YtbppemcdphgknaaGreatDoorV13
set_option linter.unusedVariables false
set_option linter.unusedSimpArgs false
namespace Go.Vm
open Go
variable {P:Program} {T:TT} {A:Type} {R:Rep A} {E:Env} {st:St A} {ρ:Rho} {M:Mem} {S:Name→List Nat} {a:Act} {w:World} {ns:List Name} {flat:Nat→Bool} {G:Nat→V}
abbrev Objs (A:Type):=List (Name×Option (Ob A))
universe u
def forceNm {β:Sort u} (n:Name) (k:Name→β):β:=match n with
 | (a,b)=>k (a,b)
def bcase {β:Sort u} (b:Bool) (x y:β):β:=match b with
 | true=>x
 | false=>y
theorem bcase_of {b:Bool} {X Y:Prop} (h:b=true→X) (h':b=false→Y):bcase b X Y:=by
 cases b
 ·exact h' rfl
 ·exact h rfl
def forceC {β:Sort u} (v:V) (k:V→β):β:=match v with
 | .agg cs=>k (.agg cs)
 | .tup cs=>k (.tup cs)
 | .undef=>k .undef
 | .int x n=>k (.int x n)
 | .bool b=>bcase b (k (.bool true)) (k (.bool false))
 | .nilp=>k .nilp
 | .nils=>k .nils
 | .ref n o=>forceNm n fun n=>k (.ref n o)
 | .rpt n z i j=>forceNm n fun n=>k (.rpt n z i j)
 | .rsl n z i l=>forceNm n fun n=>k (.rsl n z i l)
 | .asl n z o l c=>forceNm n fun n=>k (.asl n z o l c)
 | .lst z es=>k (.lst z es)
 | .lpt z es i j=>k (.lpt z es i j)
 | .sub n j o=>forceNm n fun n=>k (.sub n j o)
 | .fn f=>k (.fn f)
theorem forceC_eq {β:Sort u} (v:V) (k:V→β):forceC v k=k v:=by
 unfold forceC
 split<;>try rfl
 rename_i b
 cases b<;>rfl
def forceD {β:Sort u} (v:V) (k:V→β):β:=match v with
 | .agg cs=>k (.agg cs)
 | .tup cs=>k (.tup cs)
 | .undef=>k .undef
 | .int x n=>k (.int x n)
 | .bool b=>k (.bool b)
 | .nilp=>k .nilp
 | .nils=>k .nils
 | .ref n o=>forceNm n fun n=>k (.ref n o)
 | .rpt n z i j=>forceNm n fun n=>k (.rpt n z i j)
 | .rsl n z i l=>forceNm n fun n=>k (.rsl n z i l)
 | .asl n z o l c=>forceNm n fun n=>k (.asl n z o l c)
 | .lst z es=>k (.lst z es)
 | .lpt z es i j=>k (.lpt z es i j)
 | .sub n j o=>forceNm n fun n=>k (.sub n j o)
 | .fn f=>k (.fn f)
theorem forceD_eq {β:Sort u} (v:V) (k:V→β):forceD v k=k v:=by
 unfold forceD
 split<;>rfl
noncomputable def forceCs {β:Sort u} (l:List V) (k:List V→β):β:=List.rec (motive:=fun _=>(List V→β)→β) (fun k=>k []) (fun v _ ih k=>forceD v fun v=>ih fun r=>k (v::r)) l k
theorem forceCs_eq {β:Sort u}:∀(l:List V) (k:List V→β),forceCs l k=k l
 | [],_=>rfl
 | v::r,k=>(forceD_eq v fun v=>forceCs r fun r=>k (v::r)).trans (forceCs_eq r _)
noncomputable def forceG {β:Sort u} (v:V) (k:V→β):β:=match v with
 | .agg cs=>forceCs cs fun cs=>k (.agg cs)
 | v=>forceC v k
theorem forceG_eq {β:Sort u} (v:V) (k:V→β):forceG v k=k v:=by
 unfold forceG
 split
 ·exact forceCs_eq _ _
 ·exact forceC_eq _ _
noncomputable def forceGs {β:Sort u} (l:List V) (k:List V→β):β:=List.rec (motive:=fun _=>(List V→β)→β) (fun k=>k []) (fun v _ ih k=>forceG v fun v=>ih fun r=>k (v::r)) l k
theorem forceGs_eq {β:Sort u}:∀(l:List V) (k:List V→β),forceGs l k=k l
 | [],_=>rfl
 | v::r,k=>(forceG_eq v fun v=>forceGs r fun r=>k (v::r)).trans (forceGs_eq r _)
noncomputable def forceV {β:Sort u} (v:V) (k:V→β):β:=match v with
 | .agg cs=>forceCs cs fun cs=>k (.agg cs)
 | .tup vs=>forceGs vs fun vs=>k (.tup vs)
 | v=>forceC v k
theorem forceV_eq {β:Sort u} (v:V) (k:V→β):forceV v k=k v:=by
 unfold forceV
 split
 ·exact forceCs_eq _ _
 ·exact forceGs_eq _ _
 ·exact forceC_eq _ _
noncomputable def forceVs {β:Sort u} (l:List V) (k:List V→β):β:=List.rec (motive:=fun _=>(List V→β)→β) (fun k=>k []) (fun v _ ih k=>forceV v fun v=>ih fun r=>k (v::r)) l k
theorem forceVs_eq {β:Sort u}:∀(l:List V) (k:List V→β),forceVs l k=k l
 | [],_=>rfl
 | v::r,k=>(forceV_eq v fun v=>forceVs r fun r=>k (v::r)).trans (forceVs_eq r _)
noncomputable def lsetK {α:Type} {β:Sort u} (l:List α) (n:Nat) (v:α) (k:List α→β):β:=
 List.rec (motive:=fun _=>Nat→(List α→β)→β) (fun _ k=>k []) (fun x r ih n k=>Nat.rec (motive:=fun _=>β) (k (v::r)) (fun n _=>ih n fun r=>k (x::r)) n) l n k
theorem lsetK_eq {α:Type} {β:Sort u}:∀(l:List α) (n:Nat) (v:α) (k:List α→β),lsetK l n v k=k (lset l n v)
 | [],_,_,_=>rfl
 | _::_,0,_,_=>rfl
 | _::r,n+1,v,_=>lsetK_eq r n v _
noncomputable def forceEs {β:Sort u} (l:List (List V)) (k:List (List V)→β):β:=List.rec (motive:=fun _=>(List (List V)→β)→β) (fun k=>k []) (fun v _ ih k=>forceCs v fun v=>ih fun r=>k (v::r)) l k
theorem forceEs_eq {β:Sort u}:∀(l:List (List V)) (k:List (List V)→β),forceEs l k=k l
 | [],_=>rfl
 | v::r,k=>(forceCs_eq v fun v=>forceEs r fun r=>k (v::r)).trans (forceEs_eq r _)
def forceN {β:Sort u} (n:Nat) (k:Nat→β):β:=match n with
 | 0=>k 0
 | 1=>k 1
 | 2=>k 2
 | 3=>k 3
 | 4=>k 4
 | n=>k n
theorem forceN_eq {β:Sort u} (n:Nat) (k:Nat→β):forceN n k=k n:=by unfold forceN;split<;>rfl
noncomputable def forceOb {β:Sort u} (o:Option (Ob A)) (k:Option (Ob A)→β):β:=match o with
 | none=>k none
 | some (.box cs)=>forceCs cs fun cs=>k (some (.box cs))
 | some (.row z es f)=>k (some (.row z es f))
 | some (.abs x)=>k (some (.abs x))
 | some (.prow xs)=>k (some (.prow xs))
theorem forceOb_eq {β:Sort u} (o:Option (Ob A)) (k:Option (Ob A)→β):forceOb o k=k o:=by
 unfold forceOb
 split<;>first|rfl|exact forceCs_eq _ _
noncomputable def forceO (l:List (Nat×Option (Ob A))) (k:List (Nat×Option (Ob A))→Prop):Prop:=
 List.rec (motive:=fun _=>(List (Nat×Option (Ob A))→Prop)→Prop) (fun k=>k []) (fun x _ ih k=>forceN x.1 fun g=>forceOb x.2 fun o=>ih fun r=>k ((g,o)::r)) l k
theorem forceO_eq:∀(l:List (Nat×Option (Ob A))) (k:List (Nat×Option (Ob A))→Prop),forceO l k=k l
 | [],_=>rfl
 | x::r,k=>by
  show(forceN x.1 fun g=>forceOb x.2 fun o=>forceO r fun r=>k ((g,o)::r))=_
  rw[forceN_eq,forceOb_eq,forceO_eq]
noncomputable def forceA (l:List (Option (Ob A))) (k:List (Option (Ob A))→Prop):Prop:=
 List.rec (motive:=fun _=>(List (Option (Ob A))→Prop)→Prop) (fun k=>k []) (fun x _ ih k=>forceOb x fun o=>ih fun r=>k (o::r)) l k
theorem forceA_eq:∀(l:List (Option (Ob A))) (k:List (Option (Ob A))→Prop),forceA l k=k l
 | [],_=>rfl
 | x::r,k=>by
  show(forceOb x fun o=>forceA r fun r=>k (o::r))=_
  rw[forceOb_eq,forceA_eq]
noncomputable def forceSt (st:St A) (k:St A→Prop):Prop:=match st with
 | ⟨t,o,a⟩=>forceVs t fun t=>forceO o fun o=>forceA a fun a=>k ⟨t,o,a⟩
theorem forceSt_eq (st:St A) (k:St A→Prop):forceSt st k=k st:=by cases st;rw[forceSt,forceVs_eq,forceO_eq,forceA_eq]
noncomputable def setObK (st:St A) (n:Name) (o:Option (Ob A)) (k:St A→Prop):Prop:=forceOb o fun o=>match st,n with
 | ⟨t,p,a⟩,(0,i)=>lsetK a i o fun l=>k ⟨t,p,l⟩
 | ⟨t,p,a⟩,(s+1,g)=>lsetK p s (g,o) fun l=>k ⟨t,l,a⟩
theorem setObK_eq (st:St A) (n:Name) (o:Option (Ob A)) (k:St A→Prop):setObK st n o k=k (st.setOb n o):=by
 unfold setObK St.setOb
 rw[forceOb_eq]
 split
 ·rw[lsetK_eq]
 ·rw[lsetK_eq]
noncomputable def setObsK (l:Objs A) (st:St A) (k:St A→Prop):Prop:=
 List.rec (motive:=fun _=>St A→(St A→Prop)→Prop) (fun st k=>k st) (fun x _ ih st k=>setObK st x.1 x.2 fun st=>ih st k) l st k
theorem setObsK_eq:∀(l:Objs A) (st:St A) (k:St A→Prop),setObsK l st k=k (l.foldl (fun s x=>s.setOb x.1 x.2) st)
 | [],_,_=>rfl
 | x::r,st,k=>(setObK_eq st x.1 x.2 fun st=>setObsK r st k).trans (setObsK_eq r _ k)
noncomputable def appK (st:St A) (dst:Option Tmp) (e:Eff A) (k:St A→Prop):Prop:=setObsK e.objs st fun st=>match st,dst with
 | ⟨t,p,a⟩,some d=>forceV e.dst fun v=>lsetK t d v fun l=>k ⟨l,p,a⟩
 | ⟨t,p,a⟩,none=>k ⟨t,p,a⟩
theorem appK_eq (st:St A) (dst:Option Tmp) (e:Eff A) (k:St A→Prop):appK st dst e k=k (st.app dst e):=by
 unfold appK St.app
 rw[setObsK_eq]
 generalize List.foldl (fun s x=>St.setOb s x.1 x.2) st e.objs=s
 obtain⟨t,p,a⟩:=s
 cases dst with
 | some d=>simp only[forceV_eq,lsetK_eq,St.put]
 | none=>rfl
noncomputable def putK (st:St A) (dst:Option Tmp) (v:V) (k:St A→Prop):Prop:=match st,dst with
 | ⟨t,p,a⟩,some d=>lsetK t d v fun l=>k ⟨l,p,a⟩
 | ⟨t,p,a⟩,none=>k ⟨t,p,a⟩
theorem putK_eq (st:St A) (dst:Option Tmp) (v:V) (k:St A→Prop):putK st dst v k=k (st.put dst v):=by
 unfold putK St.put
 split
 ·rw[lsetK_eq]
 ·rfl
noncomputable def vopF [Deep A] (T:TT) (flat:Nat→Bool) (d:Name) (ev:Operand→V) (o:Oper):Rd A (Eff A):=
 match o.op with
 | .store t p x=>forceV (ev p) fun p=>forceV (ev x) fun x=>(vstore (T.at t) p x).bind fun l=>.ret {dst:=.undef,objs:=l}
 | .buildSlice t len ps=>match (T.at t).kind with
  | .slice e=>.when (decide (len*(T.at e).size≤16777216) && !((T.at e).size==0)) ((vrowOf (T.at e).zero (List.replicate len (T.at e).zero) (ps.toList.map fun p=>(p.1,ev p.2))).bind fun es=>
   forceEs es fun es=>forceN (T.at e).size fun z=>.ret {dst:=.rsl d z 0 len,objs:=[(d,some (.row z es false))]})
  | _=>.fail
 | .call c=>match c.callee,c.args.toList,c.argTypes.toList with
  | .builtin .append,[s,x],[t,u]=>match (T.at t).kind,(T.at u).kind with
   | .slice e,.slice _=>.when (!((T.at e).size==0)&&t==u) <| forceV (ev s) fun s=>forceV (ev x) fun x=>(vappendK d (T.at e) s x).bind fun r=>.ret {dst:=r.1,objs:=r.2}
   | _,_=>.fail
  | _,_,_=>vop T flat d ev o
 | _=>vop T flat d ev o
theorem vopF_eq [Deep A] (T:TT) (flat:Nat→Bool) (d:Name) (ev:Operand→V) (o:Oper):vopF T flat d ev o=(vop T flat d ev o:Rd A (Eff A)):=by
 unfold vopF
 split
 ·rename_i h;simp only[forceV_eq,vop,h]
 ·rename_i h;simp only[forceEs_eq,forceN_eq,vop,h];split<;>(rename_i hk;simp only[hk])
 ·rename_i h
  split
  ·rename_i h1 h2 h3;simp only[forceV_eq,vop,h,h1,h2,h3];split<;>simp_all only
  ·rfl
 ·rfl
noncomputable def vstepF [Deep A] (T:TT) (flat:Nat→Bool) (G:Nat→V) (st:St A) (o:Oper):Rd A (Eff A):=
 match o.dst with
 | some s=>match lget st.objs s with
  | some p=>forceN (p.1+1) fun g=>vopF T flat (s+1,g) (evV G st) o
  | none=>.fail
 | none=>match o.op with
  | .store _ _ _=>vopF T flat (0,0) (evV G st) o
  | .call c=>match c.callee with
   | .builtin .copy=>vopF T flat (0,0) (evV G st) o
   | _=>.fail
  | _=>.fail
theorem vstepF_eq [Deep A] (T:TT) (flat:Nat→Bool) (G:Nat→V) (st:St A) (o:Oper):vstepF T flat G st o=vstep T flat G st o:=by
 unfold vstepF vstep
 simp only[forceN_eq,vopF_eq]
 rfl
noncomputable def snapc:V→Rd A (V×Objs A)
 | .rsl n sz i len=>.look n fun
  | .row sz' es _=>.when (sz==sz') (.need (i+len≤es.length) (.ret (.lst sz ((es.drop i).take len),[(n,some (.row sz es true))])))
  | _=>.fail
 | v=>.ret (v,[])
noncomputable def snaps (l:List V):Rd A (List V×Objs A):=
 List.rec (motive:=fun _=>Rd A (List V×Objs A)) (.ret ([],[])) (fun v _ ih=>(snapc v).bind fun x=>ih.bind fun y=>.ret (x.1::y.1,x.2++y.2)) l
theorem snaps_cons (v:V) (r:List V):(snaps (v::r):Rd A (List V×Objs A))=(snapc v).bind fun x=>(snaps r).bind fun y=>.ret (x.1::y.1,x.2++y.2):=rfl
noncomputable def snap:V→Rd A (V×Objs A)
 | .agg cs=>(snaps cs).bind fun x=>.ret (.agg x.1,x.2)
 | .tup cs=>(snaps cs).bind fun x=>.ret (.tup x.1,x.2)
 | v=>snapc v
noncomputable def snapAll (l:List V):Rd A (List V×Objs A):=
 List.rec (motive:=fun _=>Rd A (List V×Objs A)) (.ret ([],[])) (fun v _ ih=>(snap v).bind fun x=>ih.bind fun y=>.ret (x.1::y.1,x.2++y.2)) l
theorem snapAll_cons (v:V) (r:List V):(snapAll (v::r):Rd A (List V×Objs A))=(snap v).bind fun x=>(snapAll r).bind fun y=>.ret (x.1::y.1,x.2++y.2):=rfl
def SameRows (st st':St A):Prop:=∀n sz es fz,st.get n=some (.row sz es fz)→∃fz',st'.get n=some (.row sz es fz')
theorem SameRows.refl (st:St A):SameRows st st:=fun _ _ _ fz h=>⟨fz,h⟩
theorem SameRows.freeze {st st':St A} (h:SameRows st st') {n:Name} {sz:Nat} {es:List (List V)} {fz:Bool} (hn:st'.get n=some (.row sz es fz)):SameRows st (st'.setOb n (some (.row sz es true))):=by
 intro n' sz' es' fz' h'
 obtain⟨f2,h2⟩:=h n' sz' es' fz' h'
 by_cases e:n'=n
 ·subst e
  rw[hn] at h2;cases h2
  obtain⟨n1,g⟩:=n'
  cases n1 with
  | zero=>
   have hlt:g<st'.arena.length:=by
    simp only[St.get] at hn
    split at hn
    ·rename_i x hx;exact(List.getElem?_eq_some_iff.1 hx).1
    ·cases hn
   exact⟨true,by simp[St.get,St.setOb,lset_eq,hlt]⟩
  | succ s=>
   have hs:=St.get_slot_gen hn
   exact⟨true,by rw[St.get_setOb_slot hs];simp⟩
 ·obtain⟨n1,g⟩:=n
  cases n1 with
  | zero=>
   obtain⟨m1,m2⟩:=n'
   cases m1 with
   | zero=>
    have hne:¬g=m2:=fun e'=>e (by rw[e'])
    refine⟨f2,?_⟩
    simp only[St.get,St.setOb,lset_eq] at h2 ⊢
    rw[List.getElem?_set_ne hne];exact h2
   | succ m=>exact⟨f2,h2⟩
  | succ s=>
   have hs:=St.get_slot_gen hn
   refine⟨f2,?_⟩
   rw[St.get_setOb_slot hs]
   by_cases h1:n'.1=s+1
   ·exfalso
    have:n'.2=g:=by
     obtain⟨m1,m2⟩:=n'
     simp only at h1;subst h1
     have:=St.get_slot_gen h2
     rw[hs] at this;cases this;rfl
    exact e (Prod.ext h1 this)
   ·rw[if_neg h1];exact h2
theorem snapc_sound {st₀:St A} (hsr:SameRows st₀ st) (h:Rel R E st ρ M S a w) {v:V} {v':Value} (hv:VRel ρ M v v') {x:V×Objs A} (hr:Rd.Runs st₀.get (snapc v) x ns) :
  ∃M',M.le M'∧Rel R E (setObs st x.2) ρ M' S a w∧SameRows st₀ (setObs st x.2)∧VRel ρ M' x.1 v':=by
 cases v with
 | rsl n sz i len=>
  simp only[snapc] at hr
  obtain⟨ob,ms,ho,hr⟩:=Runs.look hr
  cases ob with
  | row sz' es fz=>
   replace hr:=Runs.when hr
   obtain⟨hs,hr⟩:=hr
   replace hr:=Runs.need hr
   obtain⟨hb,hr⟩:=hr
   replace hr:=Runs.ret hr
   subst hr
   obtain rfl:sz=sz':=by simpa using hs
   obtain⟨f2,h2⟩:=hsr n sz es fz ho
   obtain⟨M',q1,q2,q3⟩:=h.freeze h2
   exact⟨M',q1,q2,hsr.freeze h2,q3 i len v' hb hv⟩
  | box=>cases hr
  | abs=>cases hr
  | prow=>cases hr
 | _=>replace hr:=Runs.ret hr;subst hr;exact⟨M,Mem.le_refl _,h,hsr,hv⟩
theorem snaps_sound {st₀:St A}:∀{vs:List V} {vs':List Value} {st:St A} {M:Mem} {ns:List Name} {x:List V×Objs A},SameRows st₀ st→Rel R E st ρ M S a w→VsRel ρ M vs vs'→Rd.Runs st₀.get (snaps vs) x ns→
  ∃M',M.le M'∧Rel R E (setObs st x.2) ρ M' S a w∧SameRows st₀ (setObs st x.2)∧VsRel ρ M' x.1 vs':=by
 intro vs
 induction vs with
 | nil=>intro vs' st M ns x hsr h hv hr;replace hr:=Runs.ret hr;subst hr;exact⟨M,Mem.le_refl _,h,hsr,hv⟩
 | cons v r ih=>
  intro vs' st M ns x hsr h hv hr
  obtain⟨v',r',rfl,hv1,hv2⟩:=hv.uncons
  rw[snaps_cons] at hr
  obtain⟨x1,n1,n2,h1,hr,_⟩:=hr.bind_inv
  obtain⟨x2,n3,n4,h2,hr,_⟩:=hr.bind_inv
  replace hr:=Runs.ret hr;subst hr
  obtain⟨M1,a1,a2,a3,a4⟩:=snapc_sound hsr h hv1 h1
  obtain⟨M2,b1,b2,b3,b4⟩:=ih a3 a2 (hv2.mono (Rho.le_refl _) a1) h2
  rw[setObs_append]
  exact⟨M2,Mem.le_trans a1 b1,b2,b3,.cons (a4.mono (Rho.le_refl _) b1) b4⟩
theorem snap_sound {st₀:St A} (hsr:SameRows st₀ st) (h:Rel R E st ρ M S a w) {v:V} {v':Value} (hv:VRel ρ M v v') {x:V×Objs A} (hr:Rd.Runs st₀.get (snap v) x ns) :
  ∃M',M.le M'∧Rel R E (setObs st x.2) ρ M' S a w∧SameRows st₀ (setObs st x.2)∧VRel ρ M' x.1 v':=by
 unfold snap at hr
 split at hr
 ·obtain⟨x1,n1,n2,h1,hr,_⟩:=hr.bind_inv
  replace hr:=Runs.ret hr;subst hr
  cases hv with
  | agg q1 q2=>
   obtain⟨M1,a1,a2,a3,a4⟩:=snaps_sound hsr h ⟨q1,q2⟩ h1
   exact⟨M1,a1,a2,a3,.agg a4.1 a4.2⟩
 ·obtain⟨x1,n1,n2,h1,hr,_⟩:=hr.bind_inv
  replace hr:=Runs.ret hr;subst hr
  cases hv with
  | tup q1 q2=>
   obtain⟨M1,a1,a2,a3,a4⟩:=snaps_sound hsr h ⟨q1,q2⟩ h1
   exact⟨M1,a1,a2,a3,.tup a4.1 a4.2⟩
 ·exact snapc_sound hsr h hv hr
theorem snapAll_sound {st₀:St A}:∀{vs:List V} {vs':List Value} {st:St A} {M:Mem} {ns:List Name} {x:List V×Objs A},SameRows st₀ st→Rel R E st ρ M S a w→VsRel ρ M vs vs'→Rd.Runs st₀.get (snapAll vs) x ns→
  ∃M',M.le M'∧Rel R E (setObs st x.2) ρ M' S a w∧SameRows st₀ (setObs st x.2)∧VsRel ρ M' x.1 vs':=by
 intro vs
 induction vs with
 | nil=>intro vs' st M ns x hsr h hv hr;replace hr:=Runs.ret hr;subst hr;exact⟨M,Mem.le_refl _,h,hsr,hv⟩
 | cons v r ih=>
  intro vs' st M ns x hsr h hv hr
  obtain⟨v',r',rfl,hv1,hv2⟩:=hv.uncons
  rw[snapAll_cons] at hr
  obtain⟨x1,n1,n2,h1,hr,_⟩:=hr.bind_inv
  obtain⟨x2,n3,n4,h2,hr,_⟩:=hr.bind_inv
  replace hr:=Runs.ret hr;subst hr
  obtain⟨M1,a1,a2,a3,a4⟩:=snap_sound hsr h hv1 h1
  obtain⟨M2,b1,b2,b3,b4⟩:=ih a3 a2 (hv2.mono (Rho.le_refl _) a1) h2
  rw[setObs_append]
  exact⟨M2,Mem.le_trans a1 b1,b2,b3,.cons (a4.mono (Rho.le_refl _) b1) b4⟩
noncomputable def snapFor (k:Nat) (vs:List V):Rd A (List V×Objs A):=match k with
 | 4=>match vs with
  | []=>.ret ([],[])
  | v::r=>(snapAll r).bind fun x=>.ret (v::x.1,x.2)
 | _=>snapAll vs
theorem snapFor_sound {k:Nat} {vs:List V} {vs':List Value} {M:Mem} {ns:List Name} {x:List V×Objs A} (h:Rel R E st ρ M S a w) (hv:VsRel ρ M vs vs') (hr:Rd.Runs st.get (snapFor k vs) x ns) :
  ∃M',M.le M'∧Rel R E (setObs st x.2) ρ M' S a w∧SameRows st (setObs st x.2)∧VsRel ρ M' x.1 vs':=by
 unfold snapFor at hr
 split at hr
 ·split at hr
  ·replace hr:=Runs.ret hr;subst hr
   exact⟨M,Mem.le_refl _,h,SameRows.refl st,hv⟩
  ·obtain⟨v',r',rfl,hv1,hv2⟩:=hv.uncons
   obtain⟨x1,n1,n2,h1,hr,_⟩:=hr.bind_inv
   replace hr:=Runs.ret hr;subst hr
   obtain⟨M1,a1,a2,a3,a4⟩:=snapAll_sound (SameRows.refl st) h hv2 h1
   exact⟨M1,a1,a2,a3,.cons (hv1.mono (Rho.le_refl _) a1) a4⟩
 ·exact snapAll_sound (SameRows.refl st) h hv hr
structure EPost (M:Mem) (S:List Nat) (w:World) (M':Mem) (w':World):Prop where
 le:M.le M'
 mem:MemOk M' w'
 size:w.heap.size≤w'.heap.size
 hos:w'.os=w.os
 tape:w'.tape=w.tape
 output:w'.output=w.output
 heap:∀b,b<w.heap.size→b∉S→w'.heap[b]?=w.heap[b]?
 new:∀b o v,M' b o=some v→M b o=some v∨w.heap.size≤b∨b∈S
def CTriple (P:Program) (G:Nat→V) (R:Rep A) (f:FuncId) (args:List V) (n:Name) (ob:Ob A) (r:V):Prop:=
 FnOk P f∧∀(w:World) (M:Mem) (ρ:Rho) (S:List Nat) (args':List Value),GOk G M→MemOk M w→VsRel ρ M args args'→ObRel R ρ M w n S ob→(∀b∈S,b<w.heap.size)→
  Calls P f args'.toArray w fun e w'=>∃r' M',e=.returned r'∧EPost M S w M' w'∧VRel (fun _=>none) M' r r'
theorem Rel.eaten {w':World} {M':Mem} (h:Rel R E st ρ M S a w) {n:Name} {ob:Ob A} (hn:st.get n=some ob) (X:EPost M (S n) w M' w'):Rel R E (st.setOb n none) ρ M' S a w':=by
 have key:∀n' ob',(st.setOb n none).get n'=some ob'→st.get n'=some ob'∧n'≠n:=by
  intro n' ob' h'
  rcases St.get_setOb_live hn none h' with⟨_,h2⟩|⟨h1,h2⟩
  ·cases h2
  ·exact⟨h2,h1⟩
 have hold:∀{n':Name} {ob':Ob A},st.get n'=some ob'→n'≠n→∀b∈S n',b∉S n:=fun {n' ob'} h1 h2 b hb=>h.disj n' n _ _ h1 hn h2 b hb
 exact {
  defers:=h.defers
  tmps:=by rw[St.tmps_setOb];exact h.tmps.mono (Rho.le_refl _) X.le
  mem:=X.mem
  objs:=fun n' ob' hn'=>by
   obtain⟨h2,h1⟩:=key n' ob' hn'
   refine(h.objs n' ob' h2).of_heap rfl (Rho.le_refl _) X.le (fun b hb o=>?_) (fun b hb=>X.heap b (h.blt n' ob' h2 b hb) (hold h2 h1 b hb))
   have hlt:=h.blt n' ob' h2 b hb
   cases hm:M b o with
   | some v=>exact X.le _ _ _ hm
   | none=>
    cases hm':M' b o with
    | none=>rfl
    | some v=>
     rcases X.new b o v hm' with h3|h3|h3
     ·rw[hm] at h3;cases h3
     ·omega
     ·exact absurd h3 (hold h2 h1 b hb)
  disj:=fun n1 n2 ob1 ob2 hn1 hn2=>h.disj n1 n2 ob1 ob2 (key n1 ob1 hn1).1 (key n2 ob2 hn2).1
  blt:=fun n' ob' hn' b hb=>Nat.lt_of_lt_of_le (h.blt n' ob' (key n' ob' hn').1 b hb) X.size
  own:=fun n' ob' hn'=>h.own n' ob' (key n' ob' hn').1
  fresh:=St.fresh_setOb hn none h.fresh
  hsize:=Nat.le_trans h.hsize X.size
  keep:=fun b hb hb'=>(X.heap b (Nat.lt_of_lt_of_le hb h.hsize) (fun hbq=>by
   rcases h.own n ob hn b hbq with h1|h1
   ·exact hb' h1
   ·omega)).trans (h.keep b hb hb')
  os:=X.hos.trans h.os
  tape:=X.tape.trans h.tape
  output:=X.output.trans h.output
  M0:=Mem.le_trans h.M0 X.le
  Mnew:=fun b o v hv=>by
   rcases X.new b o v hv with h1|h1|h1
   ·exact h.Mnew b o v h1
   ·exact .inr (.inl (Nat.le_trans h.hsize h1))
   ·rcases h.own n ob hn b h1 with h3|h3
    ·exact .inr (.inr h3)
    ·exact .inr (.inl h3)
  ρ0:=fun k x hx=>h.ρ0 k x hx}
structure Cx (A:Type) [Deep A] where
 P:Program
 T:TT
 flat:Nat→Bool
 G:Nat→V
 R:Rep A
 hR:RepOk R
 hT:TOk P T
 hF:FOk P T flat
 ar:FuncId→Nat:=fun _=>0
def callOf (o:Oper):Option (FuncId×List Operand):=
 match o.op with
 | .call c=>match c.callee with
  | .value (.func f)=>some (f,c.args.toList)
  | _=>none
 | _=>none
def pureC (v:V) (k:Prop):Prop:=match v with
 | .int _ _=>k
 | .bool _=>k
 | .nilp=>k
 | .nils=>k
 | .undef=>k
 | .fn _=>k
 | .lst _ es=>PureEs es∧k
 | .lpt _ es _ _=>PureEs es∧k
 | _=>False
theorem pureC_ok {v:V} {k:Prop} (h:pureC v k):PureV v∧k:=by
 unfold pureC at h
 split at h
 ·exact⟨.int _ _,h⟩
 ·exact⟨.bool _,h⟩
 ·exact⟨.nilp,h⟩
 ·exact⟨.nils,h⟩
 ·exact⟨.undef,h⟩
 ·exact⟨.fn _,h⟩
 ·exact⟨.lst h.1,h.2⟩
 ·exact⟨.lpt h.1,h.2⟩
 ·exact h.elim
noncomputable def pureCs (l:List V) (k:Prop):Prop:=List.rec (motive:=fun _=>Prop) k (fun v _ ih=>pureC v ih) l
theorem pureCs_ok {k:Prop}:∀{l:List V},pureCs l k→(∀v∈l,PureV v)∧k
 | [],h=>⟨PureV.nil_list,h⟩
 | v::r,h=>by
  obtain⟨h1,h2⟩:=pureC_ok (k:=pureCs r k) h
  obtain⟨h3,h4⟩:=pureCs_ok h2
  exact⟨PureV.cons_list h1 h3,h4⟩
def pureG (v:V) (k:Prop):Prop:=match v with
 | .agg cs=>pureCs cs k
 | v=>pureC v k
theorem pureG_ok {v:V} {k:Prop} (h:pureG v k):PureV v∧k:=by
 unfold pureG at h
 split at h
 ·obtain⟨h1,h2⟩:=pureCs_ok h;exact⟨.agg h1,h2⟩
 ·exact pureC_ok h
noncomputable def pureGs (l:List V) (k:Prop):Prop:=List.rec (motive:=fun _=>Prop) k (fun v _ ih=>pureG v ih) l
theorem pureGs_ok {k:Prop}:∀{l:List V},pureGs l k→(∀v∈l,PureV v)∧k
 | [],h=>⟨PureV.nil_list,h⟩
 | v::r,h=>by
  obtain⟨h1,h2⟩:=pureG_ok (k:=pureGs r k) h
  obtain⟨h3,h4⟩:=pureGs_ok h2
  exact⟨PureV.cons_list h1 h3,h4⟩
def pureK (v:V) (k:Prop):Prop:=match v with
 | .tup vs=>pureGs vs k
 | v=>pureG v k
theorem pureK_ok {v:V} {k:Prop} (h:pureK v k):PureV v∧k:=by
 unfold pureK at h
 split at h
 ·obtain⟨h1,h2⟩:=pureGs_ok h;exact⟨.tup h1,h2⟩
 ·exact pureG_ok h
noncomputable def pureKs (l:List V) (k:Prop):Prop:=List.rec (motive:=fun _=>Prop) k (fun v _ ih=>pureK v ih) l
theorem pureKs_ok {k:Prop}:∀{l:List V},pureKs l k→(∀v∈l,PureV v)∧k
 | [],h=>⟨PureV.nil_list,h⟩
 | v::r,h=>by
  obtain⟨h1,h2⟩:=pureK_ok (k:=pureKs r k) h
  obtain⟨h3,h4⟩:=pureKs_ok h2
  exact⟨PureV.cons_list h1 h3,h4⟩
noncomputable def memN (n:Name) (l:List Name):Bool:=List.rec false (fun m _ ih=>(Nat.beq m.1 n.1&&Nat.beq m.2 n.2)||ih) l
theorem memN_cons (n m:Name) (r:List Name):memN n (m::r)=((Nat.beq m.1 n.1&&Nat.beq m.2 n.2)||memN n r):=rfl
theorem memN_iff {n:Name}:∀{l:List Name},memN n l=true↔n∈l
 | []=>by simp[memN]
 | m::r=>by
  rw[memN_cons,Bool.or_eq_true,Bool.and_eq_true,memN_iff,List.mem_cons]
  simp only[Nat.beq_eq]
  constructor
  ·rintro(⟨h1,h2⟩|h)
   ·exact .inl (Prod.ext h1.symm h2.symm)
   ·exact .inr h
  ·rintro(h|h)
   ·subst h;exact .inl ⟨rfl,rfl⟩
   ·exact .inr h
noncomputable def refsOf (vs:List V):List Name:=List.rec [] (fun v _ ih=>match v with
 | .ref n _=>match memN n ih with
  | true=>ih
  | false=>n::ih
 | _=>ih) vs
theorem refsOf_nodup:∀vs:List V,(refsOf vs).Nodup
 | []=>List.nodup_nil
 | v::r=>by
  have ih:=refsOf_nodup r
  show(match v with
   | .ref n _=>match memN n (refsOf r) with
    | true=>refsOf r
    | false=>n::refsOf r
   | _=>refsOf r).Nodup
  split
  ·rename_i n _
   split
   ·exact ih
   ·rename_i h
    refine List.nodup_cons.2 ⟨fun hn=>?_,ih⟩
    rw[memN_iff.2 hn] at h;cases h
  ·exact ih
noncomputable def lookAll (l:List Name):Rd A (List (Ob A)):=List.rec (.ret []) (fun n _ ih=>.look n fun o=>ih.bind fun os=>.ret (o::os)) l
theorem lookAll_runs {f:Name→Option (Ob A)}:∀{l:List Name} {os:List (Ob A)} {ns:List Name},Rd.Runs f (lookAll l) os ns→os.length=l.length∧∀p∈l.zip os,f p.1=some p.2
 | [],os,ns,h=>by
  replace h:=Runs.ret h;subst h
  exact⟨rfl,fun p hp=>by cases hp⟩
 | n::r,os,ns,h=>by
  obtain⟨o,ms,ho,h⟩:=Runs.look h
  obtain⟨os',n1,n2,h1,h,_⟩:=h.bind_inv
  replace h:=Runs.ret h;subst h
  obtain⟨h2,h3⟩:=lookAll_runs h1
  refine⟨by simp[h2],fun p hp=>?_⟩
  rw[List.zip_cons_cons,List.mem_cons] at hp
  rcases hp with rfl|hp
  ·exact ho
  ·exact h3 p hp
noncomputable def flatV (vs:List V):List V:=List.rec [] (fun v _ ih=>match v with
 | .agg cs=>List.rec ih (fun c _ ih=>c::ih) cs
 | v=>v::ih) vs
noncomputable def rootsOf (vs:List V):List Name:=refsOf (flatV vs)
noncomputable def addN (N:List Name) (n:Name) (l:List Name):List Name:=match memN n N with
 | true=>l
 | false=>match memN n l with
  | true=>l
  | false=>n::l
noncomputable def innerCs (N:List Name) (cs:List V) (l:List Name):List Name:=List.rec l (fun c _ ih=>match c with
 | .ref n _=>addN N n ih
 | .rsl n _ _ _=>addN N n ih
 | _=>ih) cs
noncomputable def innerOf (N:List Name) (obs:List (Ob A)):List Name:=List.rec [] (fun ob _ ih=>match ob with
 | .box cs=>innerCs N cs ih
 | _=>ih) obs
theorem addN_ok {N l:List Name} {n:Name} (h:l.Nodup∧∀m∈l,m∉N):(addN N n l).Nodup∧∀m∈addN N n l,m∉N:=by
 unfold addN
 split
 ·exact h
 ·rename_i h1
  split
  ·exact h
  ·rename_i h2
   refine⟨List.nodup_cons.2 ⟨fun hn=>?_,h.1⟩,fun m hm=>?_⟩
   ·rw[memN_iff.2 hn] at h2;cases h2
   ·rcases List.mem_cons.1 hm with rfl|hm
    ·intro hn;rw[memN_iff.2 hn] at h1;cases h1
    ·exact h.2 m hm
theorem innerCs_ok {N l:List Name} (h:l.Nodup∧∀m∈l,m∉N):∀{cs:List V},(innerCs N cs l).Nodup∧∀m∈innerCs N cs l,m∉N
 | []=>h
 | c::r=>by
  have ih:=innerCs_ok (N:=N) h (cs:=r)
  show(match c with
   | .ref n _=>addN N n (innerCs N r l)
   | .rsl n _ _ _=>addN N n (innerCs N r l)
   | _=>innerCs N r l).Nodup∧∀m∈(match c with
   | .ref n _=>addN N n (innerCs N r l)
   | .rsl n _ _ _=>addN N n (innerCs N r l)
   | _=>innerCs N r l),m∉N
  split
  ·exact addN_ok ih
  ·exact addN_ok ih
  ·exact ih
theorem innerOf_ok {N:List Name}:∀{obs:List (Ob A)},(innerOf N obs).Nodup∧∀m∈innerOf N obs,m∉N
 | []=>⟨List.nodup_nil,fun _ h=>by cases h⟩
 | ob::r=>by
  have ih:=innerOf_ok (N:=N) (obs:=r)
  show(match ob with
   | .box cs=>innerCs N cs (innerOf N r)
   | _=>innerOf N r).Nodup∧∀m∈(match ob with
   | .box cs=>innerCs N cs (innerOf N r)
   | _=>innerOf N r),m∉N
  split
  ·exact innerCs_ok ih
  ·exact ih
inductive Plan (A:Type) where
 | named (N:List Name) (obs:List (Ob A))
 | close (n:Name) (cs:List V) (inner:List Name) (obs:List (Ob A))
 | sub (n:Name) (j:Nat) (r:List V) (x:A) (xs:List A)
 | eat (n:Name) (ob:Ob A)
 | keep (N:List Name) (obs:List (Ob A))
 | either (N:List Name) (obs:List (Ob A))
def subOf:List V→Option (Name×Nat×List V)
 | .sub n j 0::r=>some (n,j,r)
 | _=>none
noncomputable def planOf0 (k:Nat) (vs:List V):Rd A (Plan A):=match subOf vs with
 | some p=>.look p.1 fun
  | .prow xs=>.opt (lget xs p.2.1) fun x=>.ret (.sub p.1 p.2.1 p.2.2 x xs)
  | _=>.fail
 | none=>(lookAll (rootsOf vs)).bind fun obs=>match k,rootsOf vs,obs with
  | 2,[n],[.box cs]=>(lookAll (innerOf [n] obs)).bind fun obs2=>.ret (.close n cs (innerOf [n] obs) obs2)
  | 3,N,obs=>(lookAll (innerOf N obs)).bind fun obs2=>.ret (.named (N++innerOf N obs) (obs++obs2))
  | _,N,obs=>.ret (.named N obs)
noncomputable def planOf (k:Nat) (vs:List V):Rd A (Plan A):=match k with
 | 4=>match vs with
  | .rsl n _ _ _::_=>.look n fun ob=>.ret (.eat n ob)
  | _=>.fail
 | 5=>(lookAll (rootsOf vs)).bind fun obs=>.ret (.keep (rootsOf vs) obs)
 | 6=>(lookAll (rootsOf vs)).bind fun obs=>.ret (.either (rootsOf vs) obs)
 | 7=>(lookAll (rootsOf vs)).bind fun obs=>(lookAll (innerOf (rootsOf vs) obs)).bind fun obs2=>.ret (.keep (rootsOf vs++innerOf (rootsOf vs) obs) (obs++obs2))
 | _=>planOf0 k vs
def Plan.Ok (st:St A) (vs:List V):Plan A→Prop
 | .named N obs=>N.Nodup∧obs.length=N.length∧∀p∈N.zip obs,st.get p.1=some p.2
 | .close n cs inner obs=>st.get n=some (.box cs)∧inner.Nodup∧n∉inner∧obs.length=inner.length∧∀p∈inner.zip obs,st.get p.1=some p.2
 | .sub n j r x xs=>vs=.sub n j 0::r∧st.get n=some (.prow xs)∧xs[j]?=some x
 | .eat n ob=>st.get n=some ob
 | .keep N obs=>N.Nodup∧obs.length=N.length∧∀p∈N.zip obs,st.get p.1=some p.2
 | .either N obs=>N.Nodup∧obs.length=N.length∧∀p∈N.zip obs,st.get p.1=some p.2
theorem planOf0_ok {k:Nat} {vs:List V} {p:Plan A} (h:Rd.Runs st.get (planOf0 k vs) p ns):p.Ok st vs:=by
 unfold planOf0 at h
 split at h
 ·rename_i q hq
  obtain⟨ob,ms,ho,h⟩:=Runs.look h
  cases ob with
  | prow xs=>
   obtain⟨x,hx,h⟩:=Runs.opt h
   replace h:=Runs.ret h;subst h
   refine⟨?_,ho,by rw[lget_eq] at hx;exact hx⟩
   unfold subOf at hq
   split at hq
   ·cases hq;rfl
   ·cases hq
  | box=>cases h
  | row=>cases h
  | abs=>cases h
 ·obtain⟨obs,n1,n2,h1,h',_⟩:=h.bind_inv
  clear h
  have h:=h'
  clear h'
  obtain⟨hl,hz⟩:=lookAll_runs h1
  have hnd:(rootsOf vs).Nodup:=refsOf_nodup _
  generalize rootsOf vs=N at *
  split at h
  ·rename_i n cs
   obtain⟨obs2,n3,n4,h2,h,_⟩:=h.bind_inv
   replace h:=Runs.ret h;subst h
   obtain⟨hl2,hz2⟩:=lookAll_runs h2
   have hin:=innerOf_ok (N:=[n]) (obs:=[Ob.box (A:=A) cs])
   exact⟨hz (n,.box cs) (by simp),hin.1,fun hn=>hin.2 n hn (by simp),hl2,hz2⟩
  ·obtain⟨obs2,n3,n4,h2,h,_⟩:=h.bind_inv
   replace h:=Runs.ret h;subst h
   obtain⟨hl2,hz2⟩:=lookAll_runs h2
   have hin:=innerOf_ok (N:=N) (obs:=obs)
   refine⟨List.nodup_append.2 ⟨hnd,hin.1,fun a ha b hb e=>hin.2 b hb (by rw[←e];exact ha)⟩,by simp[hl,hl2],fun p hp=>?_⟩
   rw[List.zip_append (by omega)] at hp
   rcases List.mem_append.1 hp with hp|hp
   ·exact hz p hp
   ·exact hz2 p hp
  ·replace h:=Runs.ret h;subst h
   exact⟨hnd,hl,hz⟩
theorem planOf_ok {k:Nat} {vs:List V} {p:Plan A} (h:Rd.Runs st.get (planOf k vs) p ns):p.Ok st vs:=by
 unfold planOf at h
 split at h
 ·split at h
  ·obtain⟨ob,ms,ho,h⟩:=Runs.look h
   replace h:=Runs.ret h;subst h
   exact ho
  ·cases h
 ·obtain⟨obs,n1,n2,h1,h2,_⟩:=h.bind_inv
  replace h2:=Runs.ret h2;subst h2
  obtain⟨hl,hz⟩:=lookAll_runs h1
  exact⟨refsOf_nodup _,hl,hz⟩
 ·obtain⟨obs,n1,n2,h1,h2,_⟩:=h.bind_inv
  replace h2:=Runs.ret h2;subst h2
  obtain⟨hl,hz⟩:=lookAll_runs h1
  exact⟨refsOf_nodup _,hl,hz⟩
 ·obtain⟨obs,n1,n2,h1,h',_⟩:=h.bind_inv
  clear h
  have h:=h'
  clear h'
  obtain⟨hl,hz⟩:=lookAll_runs h1
  have hnd:(rootsOf vs).Nodup:=refsOf_nodup _
  generalize rootsOf vs=N at *
  obtain⟨obs2,n3,n4,h2,h,_⟩:=h.bind_inv
  replace h:=Runs.ret h;subst h
  obtain⟨hl2,hz2⟩:=lookAll_runs h2
  have hin:=innerOf_ok (N:=N) (obs:=obs)
  refine⟨List.nodup_append.2 ⟨hnd,hin.1,fun a ha b hb e=>hin.2 b hb (by rw[←e];exact ha)⟩,by simp[hl,hl2],fun p hp=>?_⟩
  rw[List.zip_append (by omega)] at hp
  rcases List.mem_append.1 hp with hp|hp
  ·exact hz p hp
  ·exact hz2 p hp
 ·exact planOf0_ok h
noncomputable def noArena (l:List Name):Bool:=List.rec true (fun m _ ih=>!(Nat.beq m.1 0)&&ih) l
theorem noArena_ok:∀{l:List Name},noArena l=true→∀m∈l,m.1≠0
 | [],_,_,h=>by cases h
 | m::r,h,m',hm=>by
  replace h:(!(Nat.beq m.1 0)&&noArena r)=true:=h
  rw[Bool.and_eq_true] at h
  rcases List.mem_cons.1 hm with rfl|hm
  ·intro e;rw[e] at h;simp at h
  ·exact noArena_ok h.2 m' hm
def slotsOf (l:List Name):List (Nat×Nat):=l.map fun m=>(m.1-1,m.2)
noncomputable def pone [Deep A] (C:Cx A) (st:St A) (dst:Option Tmp) (f:FuncId) (vs:List V) (p:Plan A) (K:Eff A→Prop):Prop:=match p with
 | .named N obs=>match dst with
  | none=>∃r obs',(∀d,XTriple C.P C.G C.R f vs N obs d r obs' none)∧K {dst:=r,objs:=(N.zip obs').map fun p=>(p.1,some p.2)}
  | some s=>match lget st.objs s with
   | some p=>forceN (p.1+1) fun g=>∃r obs' nw,XTriple C.P C.G C.R f vs N obs (s+1,g) r obs' nw∧K {dst:=r,objs:=(N.zip obs'++newOb (s+1,g) nw).map fun p=>(p.1,some p.2)}
   | none=>False
 | .close n cs inner obs=>∃x r x',(∀d,XTriple C.P C.G C.R f vs [n] [.abs x] d r [.abs x'] none)∧((Shut x inner cs obs∧(Deep.op x').2.length=inner.length∧noArena inner=true)∧
   K {dst:=r,objs:=shutL n x inner++((n,some (.abs x'))::opened n x' (slotsOf inner))})
 | .sub n j r x xs=>∃r' x',(∀m d,XTriple C.P C.G C.R f (.ref m 0::r) [m] [.abs x] d r' [.abs x'] none)∧(pureK r' True∧K {dst:=r',objs:=[(n,some (.prow (lset xs j x')))]})
 | .eat n ob=>∃r,CTriple C.P C.G C.R f vs n ob r∧(pureK r True∧K {dst:=r,objs:=[(n,none)]})
 | .keep N obs=>∃r,(∀d,XTriple C.P C.G C.R f vs N obs d r obs none)∧K {dst:=r,objs:=[]}
 | .either N obs=>(∃r,(∀d,XTriple C.P C.G C.R f vs N obs d r obs none)∧K {dst:=r,objs:=[]})∨∃r obs',(∀d,XTriple C.P C.G C.R f vs N obs d r obs' none)∧K {dst:=r,objs:=(N.zip obs').map fun p=>(p.1,some p.2)}
theorem pone_eff [Deep A] {C:Cx A} {st:St A} {dst:Option Tmp} {f:FuncId} {vs:List V} {p:Plan A} {K:Eff A→Prop} (h:pone C st dst f vs p K):∃eff,pone C st dst f vs p (·=eff)∧K eff:=by
 unfold pone at h
 cases p with
 | named N obs=>
  simp only at h
  split at h
  ·obtain⟨r,obs',h1,h2⟩:=h;exact⟨_,⟨r,obs',h1,rfl⟩,h2⟩
  ·rename_i s
   split at h
   ·rename_i q hq
    rw[forceN_eq] at h
    obtain⟨r,obs',nw,h1,h2⟩:=h
    refine⟨_,?_,h2⟩
    unfold pone
    simp only[hq,forceN_eq]
    exact⟨r,obs',nw,h1,rfl⟩
   ·exact h.elim
 | close n cs inner obs=>obtain⟨x,r,x',h1,h2,h3⟩:=h;exact⟨_,⟨x,r,x',h1,h2,rfl⟩,h3⟩
 | sub n j r x xs=>
  obtain⟨r',x',h1,h2,h3⟩:=h
  exact⟨_,⟨r',x',h1,h2,rfl⟩,h3⟩
 | eat n ob=>
  obtain⟨r',h1,h2,h3⟩:=h
  exact⟨_,⟨r',h1,h2,rfl⟩,h3⟩
 | keep N obs=>
  obtain⟨r',h1,h2⟩:=h
  exact⟨_,⟨r',h1,rfl⟩,h2⟩
 | either N obs=>
  rcases h with⟨r',h1,h2⟩|⟨r',o',h1,h2⟩
  ·exact⟨_,.inl ⟨r',h1,rfl⟩,h2⟩
  ·exact⟨_,.inr ⟨r',o',h1,rfl⟩,h2⟩
theorem pone_congr [Deep A] {C:Cx A} {st st':St A} {dst:Option Tmp} {f:FuncId} {vs:List V} {p:Plan A} {K:Eff A→Prop} (hd:∀s,dst=some s→lget st.objs s=lget st'.objs s) (h:pone C st dst f vs p K):pone C st' dst f vs p K:=by
 cases p with
 | named N obs=>
  cases dst with
  | none=>exact h
  | some s=>unfold pone at h ⊢;simp only at h ⊢;rw[←hd s rfl];exact h
 | close=>exact h
 | sub=>exact h
 | eat=>exact h
 | keep=>exact h
 | either=>exact h
section
def okA (m:Nat):V→Prop
 | .agg cs=>∀c∈cs,okC m c
 | v=>okC m v
def okG (m:Nat):V→Prop
 | .tup vs=>∀v∈vs,okA m v
 | v=>okA m v
def renA1 (φ:Name→Name):V→V
 | .agg cs=>.agg (cs.map (renC1 φ))
 | v=>renC1 φ v
def renG1 (φ:Name→Name):V→V
 | .tup vs=>.tup (vs.map (renA1 φ))
 | v=>renA1 φ v
theorem renA1_up {m:Nat} {φ:Name→Name} {ρ2:Rho} (h2:∀n,okN m n→ρ2 (φ n)=ρ n) {v:V} {v':Value} (hv:VRel ρ M v v') (hk:okA m v):VRel ρ2 M (renA1 φ v) v':=by
 unfold okA at hk
 unfold renA1
 split
 ·cases hv with
  | agg q1 q2=>exact .agg (renCs1_up h2 ⟨q1,q2⟩ hk).1 (renCs1_up h2 ⟨q1,q2⟩ hk).2
 ·rename_i hne
  split at hk
  ·exact absurd rfl (hne _)
  ·exact renC1_up h2 hv hk
theorem renA1_down {m:Nat} {φ:Name→Name} {ρ2:Rho} (h2:∀n,okN m n→ρ2 (φ n)=ρ n) {v:V} {v':Value} (hv:VRel ρ2 M (renA1 φ v) v') (hk:okA m v):VRel ρ M v v':=by
 unfold okA at hk
 unfold renA1 at hv
 split at hv
 ·cases hv with
  | agg q1 q2=>exact .agg (renCs1_down h2 ⟨q1,q2⟩ hk).1 (renCs1_down h2 ⟨q1,q2⟩ hk).2
 ·rename_i hne
  split at hk
  ·exact absurd rfl (hne _)
  ·exact renC1_down h2 hv hk
theorem renAs1_up {m:Nat} {φ:Name→Name} {ρ2:Rho} (h2:∀n,okN m n→ρ2 (φ n)=ρ n):∀{l:List V} {l':List Value},VsRel ρ M l l'→(∀v∈l,okA m v)→VsRel ρ2 M (l.map (renA1 φ)) l'
 | [],l',h,_=>by rw[h.nil_inv];exact .nil
 | v::r,l',h,hk=>by
  obtain⟨v',r',rfl,h1,h3⟩:=h.uncons
  exact .cons (renA1_up h2 h1 (hk v List.mem_cons_self)) (renAs1_up h2 h3 fun v hv=>hk v (List.mem_cons_of_mem _ hv))
theorem renAs1_down {m:Nat} {φ:Name→Name} {ρ2:Rho} (h2:∀n,okN m n→ρ2 (φ n)=ρ n):∀{l:List V} {l':List Value},VsRel ρ2 M (l.map (renA1 φ)) l'→(∀v∈l,okA m v)→VsRel ρ M l l'
 | [],l',h,_=>by rw[VsRel.nil_inv h];exact .nil
 | v::r,l',h,hk=>by
  rw[List.map_cons] at h
  obtain⟨v',r',rfl,h1,h3⟩:=h.uncons
  exact .cons (renA1_down h2 h1 (hk v List.mem_cons_self)) (renAs1_down h2 h3 fun v hv=>hk v (List.mem_cons_of_mem _ hv))
theorem renG1_up {m:Nat} {φ:Name→Name} {ρ2:Rho} (h2:∀n,okN m n→ρ2 (φ n)=ρ n) {v:V} {v':Value} (hv:VRel ρ M v v') (hk:okG m v):VRel ρ2 M (renG1 φ v) v':=by
 unfold okG at hk
 unfold renG1
 split
 ·cases hv with
  | tup q1 q2=>exact .tup (renAs1_up h2 ⟨q1,q2⟩ hk).1 (renAs1_up h2 ⟨q1,q2⟩ hk).2
 ·rename_i hne
  split at hk
  ·exact absurd rfl (hne _)
  ·exact renA1_up h2 hv hk
theorem renG1_down {m:Nat} {φ:Name→Name} {ρ2:Rho} (h2:∀n,okN m n→ρ2 (φ n)=ρ n) {v:V} {v':Value} (hv:VRel ρ2 M (renG1 φ v) v') (hk:okG m v):VRel ρ M v v':=by
 unfold okG at hk
 unfold renG1 at hv
 split at hv
 ·cases hv with
  | tup q1 q2=>exact .tup (renAs1_down h2 ⟨q1,q2⟩ hk).1 (renAs1_down h2 ⟨q1,q2⟩ hk).2
 ·rename_i hne
  split at hk
  ·exact absurd rfl (hne _)
  ·exact renA1_down h2 hv hk
end
def YTriple (P:Program) (G:Nat→V) (R:Rep A) (f:FuncId) (args:List V) (r:V) (nws:List (Ob A)):Prop:=
 (nws.length≤2∧okG nws.length r∧∀ob∈nws,okOb 0 ob)∧FnOk P f∧∀(w:World) (M:Mem) (args':List Value),GOk G M→MemOk M w→VsRel (fun _=>none) M args args'→Calls P f args'.toArray w fun e w'=>
  ∃(r':Value) (M':Mem) (ρc:Rho) (Ss:Nat→List Nat),e=.returned r'∧Grown M w M' w'∧(∀(i:Nat) (ob:Ob A),nws[i]?=some ob→ObRel R ρc M' w' (0,i) (Ss i) ob∧∀b∈Ss i,w.heap.size≤b∧b<w'.heap.size)∧
   (∀i j:Nat,i<nws.length→j<nws.length→i≠j→∀b∈Ss i,b∉Ss j)∧VRel ρc M' r r'
noncomputable def pfresh [Deep A] (C:Cx A) (st:St A) (dst:Option Tmp) (s2:Nat) (f:FuncId) (vs:List V) (K:Eff A→Prop):Prop:=match dst with
 | none=>False
 | some s=>match lget st.objs s,lget st.objs s2 with
  | some p,some q=>forceN (p.1+1) fun g=>forceN (q.1+1) fun g2=>Nat.beq s s2=false∧∃r nws,YTriple C.P C.G C.R f vs r nws∧
   K {dst:=renG1 (nameAt [(s+1,g),(s2+1,g2)]) r,objs:=([(s+1,g),(s2+1,g2)].zip nws).map fun p=>(p.1,some p.2)}
  | _,_=>False
theorem pfresh_eff [Deep A] {C:Cx A} {st:St A} {dst:Option Tmp} {s2:Nat} {f:FuncId} {vs:List V} {K:Eff A→Prop} (h:pfresh C st dst s2 f vs K):∃eff,pfresh C st dst s2 f vs (·=eff)∧K eff:=by
 unfold pfresh at h
 split at h
 ·exact h.elim
 ·rename_i s
  split at h
  ·rename_i p q hp hq
   simp only[forceN_eq] at h
   obtain⟨h1,r,nws,h2,h3⟩:=h
   refine⟨_,?_,h3⟩
   unfold pfresh
   simp only[hp,hq,forceN_eq]
   exact⟨h1,r,nws,h2,rfl⟩
  ·exact h.elim
theorem pfresh_congr [Deep A] {C:Cx A} {st st':St A} {dst:Option Tmp} {s2:Nat} {f:FuncId} {vs:List V} {K:Eff A→Prop} (hd:∀s,dst=some s→lget st.objs s=lget st'.objs s) (hs:lget st.objs s2=lget st'.objs s2) (h:pfresh C st dst s2 f vs K):pfresh C st' dst s2 f vs K:=by
 cases dst with
 | none=>exact h
 | some s=>unfold pfresh at h ⊢;simp only at h ⊢;rw[←hd s rfl,←hs];exact h
noncomputable def vone [Deep A] (C:Cx A) (st:St A) (o:Oper) (K:Eff A→List Name→Prop):Prop:=
 match callOf o with
 | some (f,xs)=>forceVs (xs.map (evV C.G st)) fun vs=>(snapFor (C.ar f) vs).wp st.get fun x ns=>match C.ar f with
  | 0=>forceVs x.1 fun vs=>pureKs vs (∃r,PTriple C.P C.G f vs r∧K {dst:=r,objs:=x.2} ns)
  | k+1=>match Nat.ble 7 k with
   | true=>forceVs x.1 fun vs=>pureKs vs (forceN (k-7) fun s2=>setObsK x.2 st fun st1=>pfresh C st1 o.dst s2 f vs fun e=>K {dst:=e.dst,objs:=x.2++e.objs} (ns++[(s2+1,0)]))
   | false=>forceVs x.1 fun vs=>setObsK x.2 st fun st1=>(planOf (k+1) vs).wp st1.get fun p n2=>pone C st1 o.dst f vs p fun e=>K {dst:=e.dst,objs:=x.2++e.objs} (ns++n2)
 | none=>(vstepF C.T C.flat C.G st o).wp st.get K
theorem run_callFunc {P:Program} {f:FuncId} (h:FnOk P f) (args:Array Value) (w:World):(callFunc f args).run P w=.ok (.enter f args) w:=by
 obtain⟨fn,h1,h2,h3⟩:=h
 have h4:fn.body≠none:=by rintro e;rw[e] at h3;simp at h3
 unfold callFunc
 simp only[Sem.run_bind,run_program,Result.andThen_ok,h1,h2,h3]
 simp
def StepTo [Deep A] (C:Cx A) (E:Env) (o:Oper) (st st':St A):Prop:=
 ∀a w,Sat C.R E st a w→∀(next:Act→World→Prop) (Q:Exit→Act→World→Prop),(∀a' w',Sat C.R E st' a' w'→next a' w')→o.wp C.P a w next Q
structure EOk [Deep A] (C:Cx A) (E:Env):Prop where
 G:GOk C.G E.M0
theorem St.gen_setOb {n:Name} {ob:Ob A} (hn:st.get n=some ob) (o:Option (Ob A)) {s g:Nat} (h:∃o',st.objs[s]?=some (g,o')):∃o',(st.setOb n o).objs[s]?=some (g,o'):=by
 obtain⟨o',h⟩:=h
 obtain⟨n1,gn⟩:=n
 cases n1 with
 | zero=>exact⟨o',h⟩
 | succ k=>
  have hq:=St.get_slot_gen hn
  by_cases e:k=s
  ·subst e
   rw[h] at hq;cases hq
   refine⟨o,?_⟩
   simp only[St.setOb,lset_eq]
   rw[List.getElem?_set_self (List.getElem?_eq_some_iff.1 h).1]
  ·refine⟨o',?_⟩
   simp only[St.setOb,lset_eq]
   rw[List.getElem?_set_ne e];exact h
theorem St.gen_kill {s g:Nat}:∀{l:List Name} {st:St A},(∀m∈l,∃ob,st.get m=some ob)→l.Nodup→(∃o',st.objs[s]?=some (g,o'))→∃o',(setObs st (l.map fun m=>(m,none))).objs[s]?=some (g,o')
 | [],_,_,_,h=>h
 | m::r,st,hl,hnd,h=>by
  obtain⟨ob,hm⟩:=hl m List.mem_cons_self
  rw[List.nodup_cons] at hnd
  exact St.gen_kill (l:=r) (st:=st.setOb m none) (fun m' hm'=>by
   obtain⟨ob',h'⟩:=hl m' (List.mem_cons_of_mem _ hm')
   exact⟨ob',St.get_setOb_ne hm h' (fun e=>hnd.1 (by rw[←e];exact hm')) none⟩) hnd.2 (St.gen_setOb hm none h)
theorem sub_sound [Deep A] {C:Cx A} (hE:EOk C E) (hr:Rel C.R E st ρ M S a w) {n:Name} {j:Nat} {r:List V} {x:A} {xs:List A} (hn:st.get n=some (.prow xs)) (hj:xs[j]?=some x) {f:FuncId} {r':V} {x':A}
  (hx:∀m d,XTriple C.P C.G C.R f (.ref m 0::r) [m] [.abs x] d r' [.abs x'] none) (hp':PureV r') {vs':List Value} (hv:VsRel ρ M (.sub n j 0::r) vs') :
  Calls C.P f vs'.toArray w fun e w'=>∃v M' S',e=.returned v∧Rel C.R E (st.setOb n (some (.prow (lset xs j x')))) ρ M' S' a w'∧VRel ρ M' r' v:=by
 have hjl:=(List.getElem?_eq_some_iff.1 hj).1
 rcases hr.objs n _ hn with⟨b,o,c,ty,cs',bs,Ss,hρn,hp⟩|⟨rfl,_⟩
 case inr=>cases hjl
 obtain⟨mS1,mS2⟩:=hp.mem_S
 let m:Name:=(st.objs.length+1,1)
 let d:Name:=(st.objs.length+2,1)
 have hm:ρ m=none:=hr.fresh _ _ fun p hp=>by simp at hp
 have hd:ρ d=none:=hr.fresh _ _ fun p hp=>by
  rw[List.getElem?_eq_none (by omega)] at hp;cases hp
 have hmd:d≠m:=fun e=>by simp[m,d] at e
 let ρ1:Rho:=fun k=>if k=m then some (bs j,0,C.R.size x) else ρ k
 have hle:ρ.le ρ1:=fun k y hy=>by
  by_cases e:k=m
  ·rw[e,hm] at hy;cases hy
  ·simp only[ρ1,if_neg e];exact hy
 have hmnf:FnOk C.P f:=(hx m d).1
 have hargs:VsRel ρ1 M (.ref m 0::r) vs':=by
  obtain⟨v',rr,rfl,h1,h2⟩:=hv.uncons
  refine .cons ?_ (h2.mono hle (Mem.le_refl _))
  cases h1 with
  | sub q1 q2=>
   rw[hρn] at q1;cases q1
   rw[hp.mem j hjl] at q2;cases q2
   exact .ref (c:=C.R.size x) (by simp[ρ1])
 let S1:Name→List Nat:=fun k=>if k=m then Ss j else S k
 have hG:GOk C.G M:=fun g=>(hE.G g).mono (Rho.le_refl _) hr.M0
 have hS1:S1 m=Ss j:=if_pos rfl
 refine((hx m d).2.2 w M ρ1 S1 vs' hG hr.mem hargs (by simp only[ρ1,if_neg hmd];exact hd) (by simp) ?_ ?_ ?_).mono fun e w' he=>?_
 ·intro p hpp
  simp at hpp;subst hpp
  exact⟨bs j,by simp[ρ1],by rw[hS1];exact hp.rep j x hj⟩
 ·intro p hpp q hqq hne
  simp at hpp hqq;subst hpp;subst hqq
  exact absurd rfl hne
 ·intro p hpp k hk
  simp at hpp;subst hpp
  simp only[hS1] at hk
  exact hr.blt n _ hn k (mS2 j hjl k hk)
 obtain⟨v,M',ρ',S',rfl,X,_,hrr⟩:=he
 simp only[newOb,List.append_nil,List.zip_cons_cons,List.zip_nil_right] at X
 have hρ'm:ρ' m=some (bs j,0,C.R.size x):=by rw[X.rho m (Ne.symm hmd)];simp[ρ1]
 obtain⟨b2,hb2,hrep'⟩:=X.objs (m,.abs x') (by simp)
 simp only at hb2 hrep'
 have hb2':b2=bs j:=by rw[hρ'm] at hb2;simp at hb2;exact hb2.1.symm
 subst hb2'
 have hSm:∀k∈S' m,k∈Ss j∨w.heap.size≤k:=fun k hk=>by
  rcases X.own (m,.abs x') (by simp) k hk with⟨q,hq,hq2⟩|h
  ·simp at hq;subst hq;rw[hS1] at hq2;exact .inl hq2
  ·exact .inr h
 have hheap:∀k,k<w.heap.size→k∉Ss j→w'.heap[k]?=w.heap[k]?:=fun k h1 h2=>X.heap k h1 fun q hq=>by
  simp at hq;subst hq;rw[hS1];exact h2
 have hMem:∀k,k<w.heap.size→k∉Ss j→∀o,M' k o=M k o:=fun k h1 h2 o=>by
  cases hmm:M k o with
  | some u=>exact X.le _ _ _ hmm
  | none=>
   cases hmm':M' k o with
   | none=>rfl
   | some u=>
    rcases X.new k o u hmm' with h3|h3|⟨q,h3,h4⟩
    ·rw[hmm] at h3;cases h3
    ·omega
    ·simp at h3;subst h3;rw[hS1] at h4;exact absurd h4 h2
 have hblt:∀k∈S n,k<w.heap.size:=hr.blt n _ hn
 let Ss':Nat→List Nat:=fun i=>if i=j then S' m else Ss i
 have hlen:(lset xs j x').length=xs.length:=by rw[lset_eq];simp
 have hbj:b∉Ss j:=hp.out j hjl
 have hT:∀k,k∈b::((List.range xs.length).map Ss').flatten→k∈S n∨w.heap.size≤k:=fun k hk=>by
  rcases List.mem_cons.1 hk with rfl|hk
  ·exact .inl mS1
  ·obtain⟨l,hl,hkl⟩:=List.mem_flatten.1 hk
   obtain⟨i,hi,rfl⟩:=List.mem_map.1 hl
   have hi:=List.mem_range.1 hi
   by_cases hij:i=j
   ·subst hij
    simp only[Ss',if_true] at hkl
    rcases hSm k hkl with h|h
    ·exact .inl (mS2 i hi k h)
    ·exact .inr h
   ·simp only[Ss',if_neg hij] at hkl
    exact .inl (mS2 i hi k hkl)
 have hTlt:∀k,k∈b::((List.range xs.length).map Ss').flatten→k<w'.heap.size:=fun k hk=>by
  rcases List.mem_cons.1 hk with rfl|hk
  ·exact Nat.lt_of_lt_of_le (hblt _ mS1) X.size
  ·obtain⟨l,hl,hkl⟩:=List.mem_flatten.1 hk
   obtain⟨i,hi,rfl⟩:=List.mem_map.1 hl
   have hi:=List.mem_range.1 hi
   by_cases hij:i=j
   ·subst hij
    simp only[Ss',if_true] at hkl
    exact X.blt (m,.abs x') (by simp) k hkl
   ·simp only[Ss',if_neg hij] at hkl
    exact Nat.lt_of_lt_of_le (hblt k (mS2 i hi k hkl)) X.size
 have hprow:PRow C.R M' w' (lset xs j x') b o c ty cs' bs Ss' (b::((List.range xs.length).map Ss').flatten):={
  all:=by rw[hlen]
  heap:=(hheap b (hblt b mS1) hbj).trans hp.heap
  room:=hp.room
  fits:=by rw[hlen];exact hp.fits
  cell:=by rw[hlen];exact hp.cell
  mem:=by rw[hlen];exact fun i hi=>X.le _ _ _ (hp.mem i hi)
  top:=fun i hi=>by
   rw[hMem b (hblt b mS1) hbj] at hi
   rw[hlen];exact hp.top i hi
  rep:=fun i y hy=>by
   rw[lset_eq,List.getElem?_set] at hy
   by_cases hij:j=i
   ·subst hij
    rw[if_pos rfl,if_pos hjl] at hy
    cases hy
    simp only[Ss',if_true]
    exact hrep'
   ·rw[if_neg hij] at hy
    have hi:=(List.getElem?_eq_some_iff.1 hy).1
    simp only[Ss',if_neg (Ne.symm hij)]
    have hd:∀k∈Ss i,k∉Ss j:=hp.apart i j hi hjl (Ne.symm hij)
    exact C.R.frame (hp.rep i y hy) X.le (fun k hk=>hMem k (hblt k (mS2 i hi k hk)) (hd k hk)) fun k hk=>hheap k (hblt k (mS2 i hi k hk)) (hd k hk)
  out:=fun i hi=>by
   rw[hlen] at hi
   by_cases hij:i=j
   ·subst hij
    simp only[Ss',if_true]
    intro hb
    rcases hSm b hb with h|h
    ·exact hbj h
    ·have:=hblt b mS1;omega
   ·simp only[Ss',if_neg hij];exact hp.out i hi
  apart:=fun i i' hi hi' hii k hk hk'=>by
   rw[hlen] at hi hi'
   by_cases h1:i=j<;>by_cases h2:i'=j
   ·omega
   ·simp only[Ss',if_pos h1,if_neg h2] at hk hk'
    rcases hSm k hk with h|h
    ·exact hp.apart j i' hjl hi' (fun e=>h2 e.symm) k h hk'
    ·have:=hblt k (mS2 i' hi' k hk');omega
   ·simp only[Ss',if_neg h1,if_pos h2] at hk hk'
    rcases hSm k hk' with h|h
    ·exact hp.apart i j hi hjl h1 k hk h
    ·have:=hblt k (mS2 i hi k hk);omega
   ·simp only[Ss',if_neg h1,if_neg h2] at hk hk'
    exact hp.apart i i' hi hi' hii k hk hk'}
 have key:∀n' ob1,(st.setOb n (some (Ob.prow (lset xs j x')))).get n'=some ob1→(n'=n∧ob1=.prow (lset xs j x'))∨(n'≠n∧st.get n'=some ob1):=by
  intro n' ob1 h'
  rcases St.get_setOb_live hn _ h' with⟨h1,h2⟩|h2
  ·exact .inl ⟨h1,by cases h2;rfl⟩
  ·exact .inr h2
 have hoth:∀n' ob1,n'≠n→st.get n'=some ob1→∀k∈S n',k∉Ss j:=fun n' ob1 h1 h2 k hk hk'=>hr.disj n' n _ _ h2 hn h1 k hk (mS2 j hjl k hk')
 have hown:∀k,k∈S n→k∈E.S0∨E.w0.heap.size≤k:=hr.own n _ hn
 refine⟨v,M',fun k=>if k=n then b::((List.range xs.length).map Ss').flatten else S k,rfl,?_,(hp' ρ' M' v hrr).mono (fun _ _ e=>by cases e) (Mem.le_refl _)⟩
 exact {
  defers:=hr.defers
  tmps:=by rw[St.tmps_setOb];exact hr.tmps.mono (Rho.le_refl _) X.le
  mem:=X.mem
  objs:=fun n' ob1 hn'=>by
   rcases key n' ob1 hn' with⟨rfl,rfl⟩|⟨h1,h2⟩
   ·simp only[if_true]
    exact .inl ⟨b,o,c,ty,cs',bs,Ss',hρn,hprow⟩
   ·simp only[if_neg h1]
    exact(hr.objs n' ob1 h2).of_heap rfl (Rho.le_refl _) X.le (fun k hk o=>hMem k (hr.blt n' _ h2 k hk) (hoth n' ob1 h1 h2 k hk) o) (fun k hk=>hheap k (hr.blt n' _ h2 k hk) (hoth n' ob1 h1 h2 k hk))
  disj:=fun n1 n2 o1 o2 h1 h2 hne k hk=>by
   rcases key n1 o1 h1 with⟨rfl,rfl⟩|⟨k1,k2⟩<;>rcases key n2 o2 h2 with⟨rfl,rfl⟩|⟨l1,l2⟩
   ·exact absurd rfl hne
   ·simp only[if_true,if_neg l1] at hk ⊢
    intro hk'
    rcases hT k hk with h|h
    ·exact hr.disj _ _ _ _ hn l2 (Ne.symm l1) k h hk'
    ·have:=hr.blt _ _ l2 k hk';omega
   ·simp only[if_true,if_neg k1] at hk ⊢
    intro hk'
    rcases hT k hk' with h|h
    ·exact hr.disj _ _ _ _ hn k2 (Ne.symm k1) k h hk
    ·have:=hr.blt _ _ k2 k hk;omega
   ·simp only[if_neg k1,if_neg l1] at hk ⊢;exact hr.disj _ _ _ _ k2 l2 hne k hk
  blt:=fun n1 o1 h1 k hk=>by
   rcases key n1 o1 h1 with⟨rfl,rfl⟩|⟨k1,k2⟩
   ·simp only[if_true] at hk;exact hTlt k hk
   ·simp only[if_neg k1] at hk;exact Nat.lt_of_lt_of_le (hr.blt _ _ k2 k hk) X.size
  own:=fun n1 o1 h1 k hk=>by
   rcases key n1 o1 h1 with⟨rfl,rfl⟩|⟨k1,k2⟩
   ·simp only[if_true] at hk
    rcases hT k hk with h|h
    ·exact hown k h
    ·exact .inr (Nat.le_trans hr.hsize h)
   ·simp only[if_neg k1] at hk;exact hr.own _ _ k2 k hk
  fresh:=St.fresh_setOb hn _ hr.fresh
  hsize:=Nat.le_trans hr.hsize X.size
  keep:=fun k hk hk'=>(hheap k (Nat.lt_of_lt_of_le hk hr.hsize) fun hc=>by
   rcases hown k (mS2 j hjl k hc) with h|h
   ·exact hk' h
   ·omega).trans (hr.keep k hk hk')
  os:=X.hos.trans hr.os
  tape:=X.tape.trans hr.tape
  output:=X.output.trans hr.output
  M0:=Mem.le_trans hr.M0 X.le
  Mnew:=fun k o u hu=>by
   rcases X.new k o u hu with h|h|⟨q,h1,h2⟩
   ·exact hr.Mnew k o u h
   ·exact .inr (.inl (Nat.le_trans hr.hsize h))
   ·simp at h1;subst h1;rw[hS1] at h2
    rcases hown k (mS2 j hjl k h2) with h|h
    ·exact .inr (.inr h)
    ·exact .inr (.inl h)
  ρ0:=hr.ρ0}
theorem close_sound [Deep A] {C:Cx A} (hE:EOk C E) (hr:Rel C.R E st ρ M S a w) {n:Name} {cs:List V} {inner:List Name} {obs:List (Ob A)} (hn:st.get n=some (.box cs)) (hnd:inner.Nodup) (hni:n∉inner)
  (hlen:obs.length=inner.length) (hz:∀p∈inner.zip obs,st.get p.1=some p.2) {f:FuncId} {vs:List V} {x x':A} {r:V}
  (hx:∀d,XTriple C.P C.G C.R f vs [n] [.abs x] d r [.abs x'] none) (hsh:Shut x inner cs obs) (hl:(Deep.op x').2.length=inner.length) (hna:noArena inner=true) {vs':List Value} (hv:VsRel ρ M vs vs') :
  Calls C.P f vs'.toArray w fun e w'=>∃v ρ' M' S',e=.returned v∧Rel C.R E (setObs st (shutL n x inner++((n,some (.abs x'))::opened n x' (slotsOf inner)))) ρ' M' S' a w'∧VRel ρ' M' r v:=by
 have hlive:∀m∈inner,∃ob,st.get m=some ob:=fun m hm=>by
  obtain⟨i,hi,rfl⟩:=List.mem_iff_getElem.1 hm
  exact⟨_,hz (inner[i],obs[i]'(by omega)) (List.mem_iff_getElem?.2 ⟨i,List.getElem?_zip_eq_some.2 ⟨List.getElem?_eq_getElem hi,List.getElem?_eq_getElem (by omega)⟩⟩)⟩
 obtain⟨S1,h1⟩:=hr.shut C.hR hn hlen hz hni hnd hsh
 obtain⟨_,k2,_⟩:=hr.killAll hlive hnd
 have hnk:=k2 n _ hn hni
 have hst1:setObs st (shutL n x inner)=(setObs st (inner.map fun m=>(m,none))).setOb n (some (.abs x)):=by rw[shutL,setObs_append];rfl
 have hn1:(setObs st (shutL n x inner)).get n=some (.abs x):=by rw[hst1];exact St.get_setOb_self hnk _
 have hgen:∀m∈inner,∃k,m.1=k+1∧(∃o,st.objs[k]?=some (m.2,o)):=fun m hm=>by
  have h0:=noArena_ok hna m hm
  obtain⟨ob,hob⟩:=hlive m hm
  obtain⟨m1,g⟩:=m
  cases m1 with
  | zero=>exact absurd rfl h0
  | succ k=>exact⟨k,rfl,_,St.get_slot_gen hob⟩
 have hsame:∀m ob m' ob',st.get m=some ob→st.get m'=some ob'→m.1≠0→m.1=m'.1→m=m':=fun m ob m' ob' q1 q2 q3 q4=>by
  obtain⟨m1,g⟩:=m
  obtain⟨m2,g'⟩:=m'
  simp only at q3 q4
  subst q4
  cases m1 with
  | zero=>exact absurd rfl q3
  | succ k=>
   have e1:=St.get_slot_gen q1
   have e2:=St.get_slot_gen q2
   rw[e1] at e2;cases e2;rfl
 have hG:GOk C.G M:=fun g=>(hE.G g).mono (Rho.le_refl _) hr.M0
 let d:Name:=((setObs st (shutL n x inner)).objs.length+1,1)
 have hd:ρ d=none:=h1.fresh _ _ fun p hp=>by simp at hp
 obtain⟨hf,hl2,hx⟩:=hx d
 refine(hx w M ρ S1 vs' hG h1.mem hv hd (by simp) ?_ ?_ ?_).mono fun e w' he=>?_
 ·intro p hp
  simp at hp;subst hp
  exact h1.objs _ _ hn1
 ·intro p hp q hq hne
  simp at hp hq;subst hp;subst hq
  exact absurd rfl hne
 ·intro p hp
  simp at hp;subst hp
  exact h1.blt _ _ hn1
 obtain⟨r',M',ρ',S',rfl,X,hnn,hrr⟩:=he
 simp only[newOb,List.append_nil] at X
 obtain⟨S2,h2⟩:=h1.xcall (nms:=[n]) (obs:=[.abs x]) (obs':=[.abs x']) hl2 rfl (by simp) (fun p hp=>by simp at hp;subst hp;exact hn1) hd (by simp[d]) X (hnn rfl)
 have h2':Rel C.R E ((setObs st (shutL n x inner)).setOb n (some (.abs x'))) ρ' M' S2 a w':=h2
 have hn2:((setObs st (shutL n x inner)).setOb n (some (.abs x'))).get n=some (.abs x'):=St.get_setOb_self hn1 _
 obtain⟨ρ'',S3,k5,h3⟩:=h2'.open C.hR hn2 (sl:=slotsOf inner) (by simp[slotsOf,hl])
  (fun p hp=>by
   obtain⟨m,hm,rfl⟩:=List.mem_map.1 hp
   obtain⟨k,e1,e2⟩:=hgen m hm
   simp only[e1,Nat.add_sub_cancel]
   rw[hst1]
   refine St.gen_setOb (St.get_setOb_self hnk _) _ (St.gen_setOb hnk _ (St.gen_kill hlive hnd e2)))
  (by
   unfold slotsOf
   rw[List.pairwise_map]
   refine List.Pairwise.imp_of_mem ?_ hnd
   intro m m' hm hm' hne e
   obtain⟨k,e1,_⟩:=hgen m hm
   obtain⟨k',e1',_⟩:=hgen m' hm'
   obtain⟨ob,hob⟩:=hlive m hm
   obtain⟨ob',hob'⟩:=hlive m' hm'
   exact hne (hsame m ob m' ob' hob hob' (by omega) (by omega)))
  (fun p hp e=>by
   obtain⟨m,hm,rfl⟩:=List.mem_map.1 hp
   obtain⟨k,e1,_⟩:=hgen m hm
   obtain⟨ob,hob⟩:=hlive m hm
   have:=hsame m ob n _ hob hn (by omega) (by omega)
   subst this
   exact hni hm)
 refine⟨r',ρ'',M',S3,rfl,?_,hrr.mono k5 (Mem.le_refl _)⟩
 rw[setObs_append]
 exact h3
theorem lset_same {α:Type}:∀{l:List α} {n:Nat} {v:α},l[n]?=some v→lset l n v=l
 | [],_,_,h=>by simp at h
 | x::r,0,v,h=>by simp at h;subst h;rfl
 | x::r,n+1,v,h=>by simp[lset,lset_same (l:=r) (n:=n) (v:=v) (by simpa using h)]
theorem St.setOb_same {st:St A} {n:Name} {ob:Ob A} (h:st.get n=some ob):st.setOb n (some ob)=st:=by
 obtain⟨n1,g⟩:=n
 cases n1 with
 | zero=>
  simp only[St.get] at h
  have h':st.arena[g]?=some (some ob):=by
   revert h
   cases st.arena[g]? with
   | none=>intro h;cases h
   | some o=>intro h;simp only at h;rw[h]
  simp only[St.setOb,lset_same h']
 | succ s=>
  have h':st.objs[s]?=some (g,some ob):=by
   simp only[St.get] at h
   revert h
   cases st.objs[s]? with
   | none=>intro h;cases h
   | some p=>
    obtain⟨g',o⟩:=p
    intro h
    simp only at h
    split at h
    ·rename_i e;rw[e,h]
    ·cases h
  simp only[St.setOb,lset_same h']
theorem setObs_same {st:St A}:∀{l:List (Name×Ob A)},(∀p∈l,st.get p.1=some p.2)→setObs st (l.map fun p=>(p.1,some p.2))=st
 | [],_=>rfl
 | p::r,h=>by
  show setObs (st.setOb p.1 (some p.2)) (r.map fun p=>(p.1,some p.2))=st
  rw[St.setOb_same (h p List.mem_cons_self)]
  exact setObs_same fun q hq=>h q (List.mem_cons_of_mem _ hq)
theorem pone_sound [Deep A] {C:Cx A} (hE:EOk C E) {dst:Option Tmp} {f:FuncId} {vs:List V} {vs':List Value} {p:Plan A} {eff:Eff A} (hp:p.Ok st vs) (h:pone C st dst f vs p (·=eff))
  (hr:Rel C.R E st ρ M S a w) (hv:VsRel ρ M vs vs') :
  Calls C.P f vs'.toArray w (fun e w'=>∃v,e=.returned v∧Sat C.R E (st.app dst eff) (a.put dst v) w')∧FnOk C.P f:=by
 cases p with
 | named N obs=>
  obtain⟨hnd,hlen,hos⟩:=hp
  have hobs:∀p∈N.zip obs,ObRel C.R ρ M w p.1 (S p.1) p.2:=fun p hp=>hr.objs _ _ (hos p hp)
  have hdis:∀p∈N.zip obs,∀q∈N.zip obs,p.1≠q.1→∀b∈S p.1,b∉S q.1:=fun p hp q hq hne=>hr.disj _ _ _ _ (hos p hp) (hos q hq) hne
  have hblt:∀p∈N.zip obs,∀b∈S p.1,b<w.heap.size:=fun p hp=>hr.blt _ _ (hos p hp)
  have hG:GOk C.G M:=fun g=>(hE.G g).mono (Rho.le_refl _) hr.M0
  unfold pone at h
  simp only at h
  split at h
  ·obtain⟨r,obs',hx,rfl⟩:=h
   obtain⟨hf,hl2,hx⟩:=hx (st.objs.length+1,1)
   have hd:ρ (st.objs.length+1,1)=none:=hr.fresh _ _ fun p hp=>by simp at hp
   refine⟨(hx w M ρ S vs' hG hr.mem hv hd hnd hobs hdis hblt).mono fun e w' he=>?_,hf⟩
   obtain⟨r',M',ρ',S',rfl,X,hn,hrr⟩:=he
   simp only[newOb,List.append_nil] at X
   obtain⟨S'',hrel⟩:=hr.xcall hl2 hlen.symm hnd hos hd (by simp) X (hn rfl)
   exact⟨r',rfl,ρ',M',S'',hrel.put none hrr⟩
  ·rename_i s
   split at h
   ·rename_i p hp
    rw[forceN_eq] at h
    obtain⟨r,obs',nw,hx,rfl⟩:=h
    obtain⟨hf,hl2,hx⟩:=hx
    rw[lget_eq] at hp
    have hd:ρ (s+1,p.1+1)=none:=hr.fresh _ _ fun q hq=>by rw[hp] at hq;cases hq;omega
    refine⟨(hx w M ρ S vs' hG hr.mem hv hd hnd hobs hdis hblt).mono fun e w' he=>?_,hf⟩
    obtain⟨r',M',ρ',S',rfl,X,hn,hrr⟩:=he
    cases nw with
    | none=>
     simp only[newOb,List.append_nil] at X ⊢
     obtain⟨S'',hrel⟩:=hr.xcall hl2 hlen.symm hnd hos hd (by simp) X (hn rfl)
     exact⟨r',rfl,ρ',M',S'',hrel.put _ hrr⟩
    | some nw=>
     simp only[newOb] at X ⊢
     obtain⟨S'',hrel⟩:=hr.xcallNew hl2 hlen.symm hnd hos (show st.objs[s]?=some (p.1,p.2) from hp) (Nat.lt_succ_self _) X
     exact⟨r',rfl,ρ',M',S'',hrel.put _ hrr⟩
   ·exact h.elim
 | close n cs inner obs=>
  obtain⟨hn,hnd,hni,hlen,hz⟩:=hp
  obtain⟨x,r,x',hx,⟨hsh,hl,hna⟩,rfl⟩:=h
  refine⟨(close_sound hE hr hn hnd hni hlen hz hx hsh hl hna hv).mono fun e w' he=>?_,(hx (0,0)).1⟩
  obtain⟨v,ρ',M',S',rfl,h1,h2⟩:=he
  exact⟨v,rfl,ρ',M',S',h1.put dst h2⟩
 | sub n j r x xs=>
  obtain⟨rfl,hn,hj⟩:=hp
  obtain⟨r',x',hx,hk,rfl⟩:=h
  have hpv:=(pureK_ok hk).1
  refine⟨(sub_sound hE hr hn hj hx hpv hv).mono fun e w' he=>?_,(hx (0,0) (0,0)).1⟩
  obtain⟨v,M',S',rfl,h1,h2⟩:=he
  exact⟨v,rfl,ρ,M',S',h1.put dst h2⟩
 | eat n ob=>
  obtain⟨r,hx,hk,rfl⟩:=h
  have hpv:=(pureK_ok hk).1
  have hn:st.get n=some ob:=hp
  refine⟨(hx.2 w M ρ (S n) vs' (fun g=>(hE.G g).mono (Rho.le_refl _) hr.M0) hr.mem hv (hr.objs _ _ hn) (hr.blt _ _ hn)).mono fun e w' he=>?_,hx.1⟩
  obtain⟨v,M',rfl,X,hrr⟩:=he
  exact⟨v,rfl,ρ,M',S,(hr.eaten hn X).put dst (hrr.mono (fun _ _ e=>by cases e) (Mem.le_refl _))⟩
 | keep N obs=>
  obtain⟨hnd,hlen,hos⟩:=hp
  have hobs:∀p∈N.zip obs,ObRel C.R ρ M w p.1 (S p.1) p.2:=fun p hp=>hr.objs _ _ (hos p hp)
  have hdis:∀p∈N.zip obs,∀q∈N.zip obs,p.1≠q.1→∀b∈S p.1,b∉S q.1:=fun p hp q hq hne=>hr.disj _ _ _ _ (hos p hp) (hos q hq) hne
  have hblt:∀p∈N.zip obs,∀b∈S p.1,b<w.heap.size:=fun p hp=>hr.blt _ _ (hos p hp)
  have hG:GOk C.G M:=fun g=>(hE.G g).mono (Rho.le_refl _) hr.M0
  obtain⟨r,hx,rfl⟩:=h
  obtain⟨hf,hl2,hx⟩:=hx (st.objs.length+1,1)
  have hd:ρ (st.objs.length+1,1)=none:=hr.fresh _ _ fun p hp=>by simp at hp
  refine⟨(hx w M ρ S vs' hG hr.mem hv hd hnd hobs hdis hblt).mono fun e w' he=>?_,hf⟩
  obtain⟨r',M',ρ',S',rfl,X,hn,hrr⟩:=he
  simp only[newOb,List.append_nil] at X
  obtain⟨S'',hrel⟩:=hr.xcall hl2 hlen.symm hnd hos hd (by simp) X (hn rfl)
  have hrel':Rel C.R E st ρ' M' S'' a w':=by
   have e:=setObs_same hos
   rw[e] at hrel;exact hrel
  exact⟨r',rfl,ρ',M',S'',hrel'.put dst hrr⟩
 | either N obs=>
  obtain⟨hnd,hlen,hos⟩:=hp
  have hobs:∀p∈N.zip obs,ObRel C.R ρ M w p.1 (S p.1) p.2:=fun p hp=>hr.objs _ _ (hos p hp)
  have hdis:∀p∈N.zip obs,∀q∈N.zip obs,p.1≠q.1→∀b∈S p.1,b∉S q.1:=fun p hp q hq hne=>hr.disj _ _ _ _ (hos p hp) (hos q hq) hne
  have hblt:∀p∈N.zip obs,∀b∈S p.1,b<w.heap.size:=fun p hp=>hr.blt _ _ (hos p hp)
  have hG:GOk C.G M:=fun g=>(hE.G g).mono (Rho.le_refl _) hr.M0
  rcases h with h|h
  ·obtain⟨r,hx,rfl⟩:=h
   obtain⟨hf,hl2,hx⟩:=hx (st.objs.length+1,1)
   have hd:ρ (st.objs.length+1,1)=none:=hr.fresh _ _ fun p hp=>by simp at hp
   refine⟨(hx w M ρ S vs' hG hr.mem hv hd hnd hobs hdis hblt).mono fun e w' he=>?_,hf⟩
   obtain⟨r',M',ρ',S',rfl,X,hn,hrr⟩:=he
   simp only[newOb,List.append_nil] at X
   obtain⟨S'',hrel⟩:=hr.xcall hl2 hlen.symm hnd hos hd (by simp) X (hn rfl)
   have hrel':Rel C.R E st ρ' M' S'' a w':=by
    have e:=setObs_same hos
    rw[e] at hrel;exact hrel
   exact⟨r',rfl,ρ',M',S'',hrel'.put dst hrr⟩
  ·obtain⟨r,obs',hx,rfl⟩:=h
   obtain⟨hf,hl2,hx⟩:=hx (st.objs.length+1,1)
   have hd:ρ (st.objs.length+1,1)=none:=hr.fresh _ _ fun p hp=>by simp at hp
   refine⟨(hx w M ρ S vs' hG hr.mem hv hd hnd hobs hdis hblt).mono fun e w' he=>?_,hf⟩
   obtain⟨r',M',ρ',S',rfl,X,hn,hrr⟩:=he
   simp only[newOb,List.append_nil] at X
   obtain⟨S'',hrel⟩:=hr.xcall hl2 hlen.symm hnd hos hd (by simp) X (hn rfl)
   exact⟨r',rfl,ρ',M',S'',hrel.put dst hrr⟩
theorem pfresh_sound [Deep A] {C:Cx A} (hE:EOk C E) {dst:Option Tmp} {s2:Nat} {f:FuncId} {vs:List V} {vs':List Value} {eff:Eff A} (h:pfresh C st dst s2 f vs (·=eff))
  (hr:Rel C.R E st ρ M S a w) (hv:VsRel (fun _=>none) M vs vs') :
  Calls C.P f vs'.toArray w (fun e w'=>∃v,e=.returned v∧Sat C.R E (st.app dst eff) (a.put dst v) w')∧FnOk C.P f:=by
 unfold pfresh at h
 split at h
 ·exact h.elim
 rename_i s
 split at h
 case h_2=>exact h.elim
 rename_i p q hp hq
 simp only[forceN_eq] at h
 obtain⟨hne,r,nws,⟨⟨hl,hk,hob⟩,hf,hx⟩,rfl⟩:=h
 have hne:s≠s2:=fun e=>by subst e;simp at hne
 rw[lget_eq] at hp hq
 refine⟨(hx w M vs' (fun g=>(hE.G g).mono (Rho.le_refl _) hr.M0) hr.mem hv).mono fun e w' he=>?_,hf⟩
 obtain⟨r',M',ρc,Ss,rfl,hg,ho,hd,hrr⟩:=he
 have h1:=hr.grown hg
 refine⟨r',rfl,?_⟩
 have hnot:∀(i:Nat) (ob:Ob A),nws[i]?=some ob→∀k∈Ss i,k<w'.heap.size∧(k∈E.S0∨E.w0.heap.size≤k)∧∀n ob,st.get n=some ob→k∉S n:=fun i ob hi k hk=>by
  obtain⟨q1,q2⟩:=(ho i ob hi).2 k hk
  exact⟨q2,.inr (Nat.le_trans hr.hsize q1),fun n ob hn hc=>by have:=hr.blt n ob hn k hc;omega⟩
 have hnm:∀(i:Nat) (ob:Ob A),nws[i]?=some ob→∃x,ρc (0,i)=some x:=fun i ob hi=>(ho i ob hi).1.named
 match nws,hl with
 | [],_=>
  refine⟨ρ,M',S,h1.put _ (renG1_up (ρ:=ρc) (m:=0) (fun n hn=>absurd hn.2 (Nat.not_lt_zero _)) hrr hk)⟩
 | [o1],_=>
  obtain⟨x1,hx1⟩:=hnm 0 o1 rfl
  obtain⟨ρ',S',k1,k2,k3,k4⟩:=Rel.newAll (l:=[⟨s,p.1,o1,x1,Ss 0⟩]) h1 (fun h hh=>by
    obtain rfl:=List.mem_singleton.1 hh
    exact⟨hob o1 (by simp),ρc,(0,0),hx1,(ho 0 o1 rfl).1⟩) (fun h hh=>by
    obtain rfl:=List.mem_singleton.1 hh
    exact⟨p.2,hp⟩) (fun h hh=>by
    obtain rfl:=List.mem_singleton.1 hh
    exact hnot 0 o1 rfl) (List.pairwise_singleton _ _)
  refine⟨ρ',M',S',k1.put _ (renG1_up (ρ:=ρc) (m:=1) (fun n hn=>?_) hrr hk)⟩
  obtain⟨n1,n2⟩:=n
  obtain⟨e1,e2⟩:=hn
  simp only at e1 e2
  obtain rfl:n2=0:=by omega
  subst e1
  rw[hx1];exact k3 ⟨s,p.1,o1,x1,Ss 0⟩ (by simp)
 | [o1,o2],_=>
  obtain⟨x1,hx1⟩:=hnm 0 o1 rfl
  obtain⟨x2,hx2⟩:=hnm 1 o2 rfl
  obtain⟨ρ',S',k1,k2,k3,k4⟩:=Rel.newAll (l:=[⟨s,p.1,o1,x1,Ss 0⟩,⟨s2,q.1,o2,x2,Ss 1⟩]) h1 (fun h hh=>by
    rcases List.mem_cons.1 hh with rfl|hh
    ·exact⟨hob o1 (by simp),ρc,(0,0),hx1,(ho 0 o1 rfl).1⟩
    ·obtain rfl:=List.mem_singleton.1 hh
     exact⟨hob o2 (by simp),ρc,(0,1),hx2,(ho 1 o2 rfl).1⟩) (fun h hh=>by
    rcases List.mem_cons.1 hh with rfl|hh
    ·exact⟨p.2,hp⟩
    ·obtain rfl:=List.mem_singleton.1 hh
     exact⟨q.2,hq⟩) (fun h hh=>by
    rcases List.mem_cons.1 hh with rfl|hh
    ·exact hnot 0 o1 rfl
    ·obtain rfl:=List.mem_singleton.1 hh
     exact hnot 1 o2 rfl) (List.pairwise_cons.2 ⟨fun h hh=>by
    obtain rfl:=List.mem_singleton.1 hh
    exact⟨hne,hd 0 1 (by simp) (by simp) (by simp)⟩,List.pairwise_singleton _ _⟩)
  refine⟨ρ',M',S',k1.put _ (renG1_up (ρ:=ρc) (m:=2) (fun n hn=>?_) hrr hk)⟩
  obtain⟨n1,n2⟩:=n
  obtain⟨e1,e2⟩:=hn
  simp only at e1 e2
  subst e1
  rcases(show n2=0∨n2=1 by omega) with rfl|rfl
  ·rw[hx1];exact k3 ⟨s,p.1,o1,x1,Ss 0⟩ (by simp)
  ·rw[hx2];exact k3 ⟨s2,q.1,o2,x2,Ss 1⟩ (by simp)
 | _::_::_::_,hl=>simp at hl
theorem callOf_call {o:Oper} {f:FuncId} {xs:List Operand} (h:callOf o=some (f,xs)):∃args ats,o.op=.call ⟨.value (.func f),args,ats⟩∧xs=args.toList:=by
 unfold callOf at h
 split at h
 ·rename_i c hc
  obtain⟨callee,args,ats⟩:=c
  simp only at h
  split at h
  ·cases h
   exact⟨args,ats,hc,rfl⟩
  ·cases h
 ·cases h
def OneRuns [Deep A] (C:Cx A) (st:St A) (o:Oper) (eff:Eff A) (ns:List Name):Prop:=match callOf o with
 | some (f,xs)=>∃x n1,Rd.Runs st.get (snapFor (C.ar f) (xs.map (evV C.G st))) x n1∧((C.ar f=0∧ns=n1∧(∀v∈x.1,PureV v)∧∃r,PTriple C.P C.G f x.1 r∧eff={dst:=r,objs:=x.2})∨
   (∃p n2 e,Rd.Runs (setObs st x.2).get (planOf (C.ar f) x.1) p n2∧ns=n1++n2∧pone C (setObs st x.2) o.dst f x.1 p (·=e)∧eff={dst:=e.dst,objs:=x.2++e.objs})∨
   (∃s2 e,ns=n1++[(s2+1,0)]∧(∀v∈x.1,PureV v)∧pfresh C (setObs st x.2) o.dst s2 f x.1 (·=e)∧eff={dst:=e.dst,objs:=x.2++e.objs}))
 | none=>Rd.Runs st.get (vstep C.T C.flat C.G st o) eff ns
theorem vone_runs [Deep A] {C:Cx A} {o:Oper} {K:Eff A→List Name→Prop} (h:vone C st o K):∃eff ns,OneRuns C st o eff ns∧K eff ns:=by
 unfold vone at h
 unfold OneRuns
 cases hc:callOf o with
 | some p=>
  obtain⟨f,xs⟩:=p
  rw[hc] at h
  simp only[forceVs_eq] at h
  obtain⟨x,ns,h1,h⟩:=Rd.wp_runs h
  cases har:C.ar f with
  | zero=>
   rw[har] at h
   obtain⟨hp,r,ht,hK⟩:=pureKs_ok h
   exact⟨_,ns,⟨x,ns,h1,.inl ⟨har,rfl,hp,r,ht,rfl⟩⟩,hK⟩
  | succ k=>
   rw[har] at h
   simp only at h
   split at h
   ·obtain⟨hp,h⟩:=pureKs_ok h
    simp only[forceN_eq,setObsK_eq] at h
    obtain⟨e,h3,hK⟩:=pfresh_eff h
    exact⟨_,_,⟨x,ns,h1,.inr (.inr ⟨_,e,rfl,hp,h3,rfl⟩)⟩,hK⟩
   ·simp only[setObsK_eq] at h
    obtain⟨p,n2,h2,h⟩:=Rd.wp_runs h
    obtain⟨e,h3,hK⟩:=pone_eff h
    exact⟨_,_,⟨x,ns,h1,.inr (.inl ⟨p,n2,e,by rw[har];exact h2,rfl,h3,rfl⟩)⟩,hK⟩
 | none=>
  rw[hc] at h
  simp only[vstepF_eq] at h
  obtain⟨eff,ns,h1,hK⟩:=Rd.wp_runs h
  exact⟨eff,ns,h1,hK⟩
theorem OneRuns.sound [Deep A] {C:Cx A} (hE:EOk C E) {o:Oper} {eff:Eff A} {ns:List Name} (h:OneRuns C st o eff ns):StepTo C E o st (st.app o.dst eff):=by
 unfold OneRuns at h
 split at h
 ·rename_i f xs hc
  obtain⟨x,n1,h1,h⟩:=h
  rintro a w ⟨ρ,M,S,hr⟩ next Q hn
  obtain⟨M1,q1,q2,q3,q4⟩:=snapFor_sound hr (hr.evs hE.G xs) h1
  obtain⟨args,ats,hop,rfl⟩:=callOf_call hc
  obtain⟨dst,op,type,pos,after,guard⟩:=o
  simp only at hop
  subst hop
  unfold Oper.wp
  have hargs:(#[]++args.map a.eval++#[]:Array Value)=(args.toList.map a.eval).toArray:=by simp;rw[←Array.toList_map]
  rcases h with⟨har,rfl,hp,r,ht,rfl⟩|⟨p,n2,e,h2,rfl,h3,rfl⟩|⟨s2,e,rfl,hp,h3,rfl⟩
  ·have hpure:VsRel (fun _=>none) M1 x.1 (args.toList.map a.eval):=⟨q4.1,fun i v v' hv hv'=>hp v (List.mem_of_getElem? hv) _ _ _ (q4.2 i v v' hv hv')⟩
   rcases ht with ht|ht
   ·rw[execOp_call_go,run_callFunc ht.1]
    rw[Oper.upon_enter]
    rw[hargs]
    refine(ht.2 w M1 _ (fun g=>(hE.G g).mono (Rho.le_refl _) (Mem.le_trans hr.M0 q1)) q2.mem hpure).mono fun e w' he=>?_
    obtain⟨r',M2,rfl,hg,hrr⟩:=he
    refine hn _ _ ⟨ρ,M2,S,?_⟩
    exact(q2.grown hg).put dst (hrr.mono (fun _ _ e=>by cases e) (Mem.le_refl _))
   ·obtain⟨v,hv,hvr⟩:=ht w M1 _ q2.mem hpure
    rw[execOp_call_go,hargs,hv,Oper.upon_value]
    exact hn _ _ ⟨ρ,M1,S,q2.put dst (hvr.mono (fun _ _ e=>by cases e) (Mem.le_refl _))⟩
  ·obtain⟨hcall,hf⟩:=pone_sound hE (planOf_ok h2) h3 q2 q4
   rw[execOp_call_go,run_callFunc hf,Oper.upon_enter,hargs]
   refine hcall.mono fun e' w' he=>?_
   obtain⟨v,rfl,hs⟩:=he
   refine hn _ _ ?_
   have:St.app st dst {dst:=e.dst,objs:=x.2++e.objs}=St.app (setObs st x.2) dst e:=by
    simp only[St.app,setObs,List.foldl_append]
   rw[this]
   exact hs
  ·have hpure:VsRel (fun _=>none) M1 x.1 (args.toList.map a.eval):=⟨q4.1,fun i v v' hv hv'=>hp v (List.mem_of_getElem? hv) _ _ _ (q4.2 i v v' hv hv')⟩
   obtain⟨hcall,hf⟩:=pfresh_sound hE h3 q2 hpure
   rw[execOp_call_go,run_callFunc hf,Oper.upon_enter,hargs]
   refine hcall.mono fun e' w' he=>?_
   obtain⟨v,rfl,hs⟩:=he
   refine hn _ _ ?_
   have:St.app st dst {dst:=e.dst,objs:=x.2++e.objs}=St.app (setObs st x.2) dst e:=by
    simp only[St.app,setObs,List.foldl_append]
   rw[this]
   exact hs
 ·rintro a w ⟨ρ,M,S,hr⟩ next Q hn
  exact(vop_sound C.hR C.hT C.hF hE.G hr h).wp hn
theorem vone_sound [Deep A] {C:Cx A} (hE:EOk C E) {o:Oper} {K:Eff A→List Name→Prop} (h:vone C st o K):∃eff ns,K eff ns∧StepTo C E o st (st.app o.dst eff):=by
 obtain⟨eff,ns,h1,h2⟩:=vone_runs h
 exact⟨eff,ns,h2,h1.sound hE⟩
end Go.Vm
