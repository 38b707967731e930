/- A part of the proofs over the seat YtbppemcdphgknaaGreatDoor. -/
import Derived.Test.YtbppemcdphgknaaGreatDoorVm14
set_option linter.unusedVariables false
set_option linter.unusedSimpArgs false
namespace Go.Vm
open Go
variable {A:Type} {E:Env} {st:St A} {a:Act} {w:World}
abbrev Loc:=Nat×Nat
def locOf (n:Name):Loc:=match n.1 with
 | 0=>(2,n.2)
 | s+1=>(1,s)
structure Fp where
 ins:List Loc
 outs:List Loc
def tmpLocs:List Operand→List Loc
 | []=>[]
 | .tmp t::r=>(0,t)::tmpLocs r
 | _::r=>tmpLocs r
def dstLocs (k:Nat):Option Tmp→List Loc
 | some d=>[(k,d)]
 | none=>[]
def guardTmp (all:List Oper) (o:Oper):List Loc:=match o.guard with
 | none=>[]
 | some (j,_)=>match lget all j with
  | some oj=>dstLocs 0 oj.dst
  | none=>[]
def opXs:Op→List Operand
 | .move x=>[x]
 | .assign x=>[x]
 | .pick c a b=>[c,a,b]
 | .box _ x=>[x]
 | .build _ ps=>ps.toList.map fun p=>p.2
 | .buildSlice _ _ ps=>ps.toList.map fun p=>p.2
 | .load _ p=>[p]
 | .store _ p x=>[p,x]
 | .nilCheck x=>[x]
 | .binOp _ _ x y _=>[x,y]
 | .unOp _ _ x=>[x]
 | .convert _ _ x=>[x]
 | .makeSlice _ l c=>[l,c]
 | .slice _ x lo hi mx=>x::(lo.toList++(hi.toList++mx.toList))
 | .fieldAddr _ x _=>[x]
 | .field _ x _=>[x]
 | .indexAddr _ x i=>[x,i]
 | .index _ x i=>[x,i]
 | .extract x _=>[x]
 | .call c=>c.args.toList
 | _=>[]
def fpRun (all:List Oper) (o:Oper) (eff:Eff A) (ns:List Name):Fp:=
 {ins:=guardTmp all o++(tmpLocs (opXs o.op)++(dstLocs 1 o.dst++ns.map locOf)),outs:=dstLocs 0 o.dst++eff.objs.map fun x=>locOf x.1}
def fpSkip (all:List Oper) (o:Oper):Fp:={ins:=guardTmp all o,outs:=dstLocs 0 o.dst}
def gval (all:List Oper) (st:St A) (j:Nat):Option (Option Bool):=match lget all j with
 | some oj=>match oj.dst with
  | some d=>match lget st.tmps d with
   | some (.bool b)=>some (some b)
   | some (.tup [])=>some none
   | _=>none
  | none=>none
 | none=>none
def vguard (all:List Oper) (st:St A) (o:Oper) (X Y:Prop):Prop:=match o.guard with
 | none=>X
 | some (j,want)=>match gval all st j with
  | none=>False
  | some none=>Y
  | some (some b)=>match want with
   | true=>match b with
    | true=>X
    | false=>Y
   | false=>match b with
    | true=>Y
    | false=>X
noncomputable def vregs [Deep A] (C:Cx A) (all:List Oper) (l:List Oper) (st:St A) (fps:List Fp) (K:St A→List Fp→Prop):Prop:=
 List.rec (motive:=fun _=>St A→List Fp→Prop) (fun st fps=>K st fps)
  (fun o _ ih st fps=>vguard all st o (vone C st o fun eff ns=>appK st o.dst eff fun st=>ih st (fpRun all o eff ns::fps)) (putK st o.dst (.tup []) fun st=>ih st (fpSkip all o::fps))) l st fps
theorem vregs_cons [Deep A] (C:Cx A) (all:List Oper) (o:Oper) (r:List Oper) (st:St A) (fps:List Fp) (K:St A→List Fp→Prop):vregs C all (o::r) st fps K =
  vguard all st o (vone C st o fun eff ns=>appK st o.dst eff fun st=>vregs C all r st (fpRun all o eff ns::fps) K) (putK st o.dst (.tup []) fun st=>vregs C all r st (fpSkip all o::fps) K):=rfl
theorem wanted_of [Deep A] {C:Cx A} {all:List Oper} {j:Nat} {b:Option Bool} (hg:gval all st j=some b) (h:Sat C.R E st a w):yielded all.toArray a.tmps j=b:=by
 obtain⟨ρ,M,S,hr⟩:=h
 unfold gval at hg
 split at hg
 ·rename_i oj hj
  split at hg
  ·rename_i d hd
   split at hg
   ·rename_i b' hb
    cases hg
    rw[lget_eq] at hj hb
    obtain⟨v',q1,q2⟩:=hr.tmps.get hb
    cases q2
    have h1:(all.toArray[j]?).bind (·.dst)=some d:=by
     rw[List.getElem?_toArray,hj];exact hd
    have h2:a.tmps[d]?=some (.bool b'):=by rw[←Array.getElem?_toList];exact q1
    unfold yielded
    rw[h1]
    simp[h2]
   ·rename_i hb
    cases hg
    rw[lget_eq] at hj hb
    obtain⟨v',q1,q2⟩:=hr.tmps.get hb
    cases q2 with
    | tup k1 k2=>
     rename_i cs'
     have hc:cs'=[]:=by simpa using k1.symm
     subst hc
     have h1:(all.toArray[j]?).bind (·.dst)=some d:=by
      rw[List.getElem?_toArray,hj];exact hd
     have h2:a.tmps[d]?=some (.tuple #[]):=by rw[←Array.getElem?_toList];exact q1
     unfold yielded
     rw[h1]
     simp[h2]
   ·cases hg
  ·cases hg
 ·cases hg
theorem vguard_sound [Deep A] {C:Cx A} {all:List Oper} {o:Oper} {X Y:Prop} (h:vguard all st o X Y) :
  (X∧∀a w,Sat C.R E st a w→Region.wanted o (yielded all.toArray a.tmps)=true)∨(Y∧∀a w,Sat C.R E st a w→Region.wanted o (yielded all.toArray a.tmps)=false):=by
 unfold vguard at h
 split at h
 ·rename_i hg;exact .inl ⟨h,fun a w _=>by simp[Region.wanted,hg]⟩
 ·rename_i j want hg
  cases hv:gval all st j with
  | none=>rw[hv] at h;exact h.elim
  | some ob=>
   rw[hv] at h
   have key:∀a w,Sat C.R E st a w→Region.wanted o (yielded all.toArray a.tmps)=(ob==some want):=by
    intro a w hs
    simp only[Region.wanted,hg,wanted_of hv hs]
   cases ob with
   | none=>exact .inr ⟨h,fun a w hs=>by rw[key a w hs];rfl⟩
   | some b=>
    cases want<;>cases b<;>simp only at h
    ·exact .inl ⟨h,fun a w hs=>key a w hs⟩
    ·exact .inr ⟨h,fun a w hs=>key a w hs⟩
    ·exact .inr ⟨h,fun a w hs=>key a w hs⟩
    ·exact .inl ⟨h,fun a w hs=>key a w hs⟩
theorem Sat.put_undef [Deep A] {C:Cx A} (h:Sat C.R E st a w) (d:Option Tmp):Sat C.R E (st.put d (.tup [])) (a.put d undef) w:=by
 obtain⟨ρ,M,S,hr⟩:=h
 exact⟨ρ,M,S,hr.put d (.tup (cs':=[]) rfl fun i v v' hv=>by simp at hv)⟩
theorem vregs_list [Deep A] {C:Cx A} (hE:EOk C E) {all:List Oper} {Q:Exit→Act→World→Prop}:∀{r:List Oper} {st:St A} {fps:List Fp} {K:St A→List Fp→Prop},vregs C all r st fps K→
  (∀st' fps',K st' fps'→∀a' w',Sat C.R E st' a' w'→Q .normal a' w')→∀a w,Sat C.R E st a w→wpList C.P all.toArray Q r a w:=by
 intro r
 induction r with
 | nil=>intro st fps K h hK a w hs;exact hK _ _ h _ _ hs
 | cons o r ih=>
  intro st fps K h hK a w hs
  refine wpList_step fun next hn=>?_
  rw[vregs_cons] at h
  rcases vguard_sound (C:=C) (E:=E) h with⟨h1,h2⟩|⟨h1,h2⟩
  ·rw[if_pos (h2 a w hs)]
   obtain⟨eff,ns,h3,h4⟩:=vone_sound hE h1
   rw[appK_eq] at h3
   exact h4 a w hs next Q fun a' w' hs'=>hn _ _ (ih h3 hK a' w' hs')
  ·rw[if_neg (by rw[h2 a w hs];simp)]
   rw[putK_eq] at h1
   exact hn _ _ (ih h1 hK _ _ (hs.put_undef _))
def VWp [Deep A] (C:Cx A) (E:Env) (c:Code) (st:St A) (K:Exit→St A→Prop):Prop:=
 ∀a w,Sat C.R E st a w→c.wp C.P (fun e a' w'=>(e=.normal∨e=.ret∨∃id,e=.exit id)∧∃st',K e st'∧Sat C.R E st' a' w') a w
theorem VWp.mono [Deep A] {C:Cx A} {c:Code} {K K':Exit→St A→Prop} (h:VWp C E c st K) (hk:∀e st,K e st→K' e st):VWp C E c st K':=
 fun a w hs=>wp_mono (h a w hs) fun _ _ _ ⟨h1,st',h2,h3⟩=>⟨h1,st',hk _ _ h2,h3⟩
theorem VWp.seq [Deep A] {C:Cx A} {x y:Code} {K:Exit→St A→Prop} (h:VWp C E x st fun e st=>match e with
  | .normal=>VWp C E y st K
  | e=>K e st):VWp C E (.seq x y) st K:=fun a w hs=>
 wp_seq (wp_mono (h a w hs) fun e a' w' ⟨h1,st',h2,h3⟩=>by
  rcases h1 with rfl|rfl|⟨id,rfl⟩
  ·exact h2 a' w' h3
  ·exact⟨.inr (.inl rfl),st',h2,h3⟩
  ·exact⟨.inr (.inr ⟨id,rfl⟩),st',h2,h3⟩)
theorem VWp.block [Deep A] {C:Cx A} {id:Nat} {x:Code} {K:Exit→St A→Prop} (h:VWp C E x st fun e st=>match e with
  | .exit j=>if j=id then K .normal st else K (.exit j) st
  | e=>K e st):VWp C E (.block id x) st K:=fun a w hs=>
 wp_block (wp_mono (h a w hs) fun e a' w' ⟨h1,st',h2,h3⟩=>by
  rcases h1 with rfl|rfl|⟨j,rfl⟩
  ·exact⟨.inl rfl,st',h2,h3⟩
  ·exact⟨.inr (.inl rfl),st',h2,h3⟩
  ·simp only at h2
   by_cases hj:j=id
   ·rw[if_pos hj] at h2
    unfold Exit.inBlock
    simp only[hj,if_true]
    exact⟨by simp,st',h2,h3⟩
   ·rw[if_neg hj] at h2
    unfold Exit.inBlock
    simp only[if_neg hj]
    exact⟨.inr (.inr ⟨j,rfl⟩),st',h2,h3⟩)
theorem VWp.skip [Deep A] {C:Cx A} {K:Exit→St A→Prop} (h:K .normal st):VWp C E .skip st K:=fun _ _ hs=>wp_skip ⟨.inl rfl,st,h,hs⟩
theorem VWp.exit [Deep A] {C:Cx A} {id:Nat} {K:Exit→St A→Prop} (h:K (.exit id) st):VWp C E (.exit id) st K:=fun _ _ hs=>wp_exit ⟨.inr (.inr ⟨id,rfl⟩),st,h,hs⟩
theorem VWp.ret [Deep A] {C:Cx A} {K:Exit→St A→Prop} (h:K .ret st):VWp C E .ret st K:=fun _ _ hs=>wp_ret ⟨.inr (.inl rfl),st,h,hs⟩
theorem VWp.cond [Deep A] {C:Cx A} {G:Nat→V} (hG:C.G=G) (hE:EOk C E) {c:Operand} {x y:Code} {b:Bool} {K:Exit→St A→Prop} (hc:evV G st c=.bool b) (h:VWp C E (if b then x else y) st K):VWp C E (.cond c x y) st K:=fun a w hs=>by
 obtain⟨ρ,M,S,hr⟩:=hs
 have:=hr.ev hE.G c
 rw[hG,hc] at this
 generalize ha:a.eval c=v at this
 cases this
 exact wp_cond ha (h a w ⟨ρ,M,S,hr⟩)
theorem VWp.region [Deep A] {C:Cx A} (hE:EOk C E) {id:Nat} {ops:Array Oper} {K:Exit→St A→Prop} (h:vregs C ops.toList ops.toList st [] fun st _=>K .normal st):VWp C E (.region id ops false) st K:=fun a w hs=>by
 refine wp_region_list ?_
 have:=vregs_list hE (Q:=fun e a' w'=>(e=.normal∨e=.ret∨∃id,e=.exit id)∧∃st',K e st'∧Sat C.R E st' a' w') h (fun st' _ hk a' w' hs'=>⟨.inl rfl,st',hk,hs'⟩) a w hs
 simpa using this
def LoopWp (P:Program) (c:Code) (Q:Exit→Act→World→Prop) (a:Act) (w:World):Prop:=
 ∀(b:Frame) (k:List Item) (cs:List Frame),∃e a' w',Q e a' w'∧Arrives P (lone (b.at a (.code c::.inLoop c::k)) cs w) b k cs e a' w'
theorem LoopWp.wp {P:Program} {c:Code} {Q:Exit→Act→World→Prop} (h:LoopWp P c Q a w):(Code.loop c).wp P Q a w:=by
 intro b k cs
 obtain⟨e,a',w',hq,harr⟩:=h b k cs
 exact⟨e,a',w',hq,.of_steps (.one step_loop) harr⟩
theorem LoopWp.round {P:Program} {c:Code} {Q:Exit→Act→World→Prop} (h:c.wp P (Exit.then (fun a' w'=>LoopWp P c Q a' w') Q) a w):LoopWp P c Q a w:=by
 intro b k cs
 obtain⟨e,a₁,w₁,hq,harr⟩:=h b (.inLoop c::k) cs
 cases e with
 | normal=>
  obtain⟨e₂,a₂,w₂,hq₂,harr₂⟩:=hq b k cs
  exact⟨e₂,a₂,w₂,hq₂,.of_steps (Steps.trans harr (.one step_inLoop)) harr₂⟩
 | exit id=>exact⟨_,a₁,w₁,hq,.pass (x:=.inLoop c) rfl (fun _ _=>.inl (by simp)) harr⟩
 | ret=>exact⟨_,a₁,w₁,hq,.pass (x:=.inLoop c) rfl (fun _ _=>.inl (by simp)) harr⟩
 | panic ch=>exact⟨_,a₁,w₁,hq,.pass (x:=.inLoop c) rfl (fun _ _=>.inl (by simp)) harr⟩
 | goto l=>exact⟨_,a₁,w₁,hq,.pass (x:=.inLoop c) rfl (fun _ _=>.inl (by simp)) harr⟩
 | outgrown=>exact⟨_,a₁,w₁,hq,harr⟩
end Go.Vm
