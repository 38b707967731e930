/- A part of the proofs over the seat YtbppemcdphgknaaGreatDoor. -/
import Derived.Test.YtbppemcdphgknaaGreatDoorVm23
set_option linter.unusedVariables false
set_option linter.unusedSimpArgs false
set_option maxRecDepth 100000
set_option maxHeartbeats 40000000
namespace Go.Vm
open Go
set_option linter.unusedSimpArgs false
variable {P:Program} {A:Type} {R:Rep A} {E:Env} {st:St A} {ρ:Rho} {M:Mem} {a:Act} {w:World} {G:Nat→V}
def renO1 (φ:Name→Name):Ob A→Ob A
 | .box cs=>.box (cs.map (renC1 φ))
 | .row z es f=>.row z es f
 | .abs x=>.abs x
 | .prow xs=>.prow xs
theorem renO1_up {m:Nat} {φ:Name→Name} {ρ2:Rho} (h2:∀n,okN m n→ρ2 (φ n)=ρ n) {n n':Name} (hn:ρ2 n'=ρ n) {S:List Nat} {ob:Ob A} (h:ObRel R ρ M w n S ob) (hk:okOb m ob):ObRel R ρ2 M w n' S (renO1 φ ob):=by
 cases ob with
 | box cs=>
  obtain⟨b,T,cs',e1,e2,e3,e4,e5⟩:=h
  exact⟨b,T,cs',e1,by rw[hn,List.length_map];exact e2,e3,renCs1_up h2 e4 hk,e5⟩
 | row z es f=>
  rcases h with⟨b,o,c,T,cs',e1,e2,e3,e4,e5,e6,e7,e8⟩|⟨q1,q2,b,o,q3⟩
  case inr=>exact .inr ⟨q1,q2,b,o,hn.trans q3⟩
  refine .inl ⟨b,o,c,T,cs',e1,hn.trans e2,e3,e4,e5,e6,fun i k e v he hv=>?_,e8⟩
  obtain⟨v',q1,q2⟩:=e7 i k e v he hv
  exact⟨v',q1,(hk e (List.mem_of_getElem? he) v (List.mem_of_getElem? hv)).any q2⟩
 | abs x=>
  obtain⟨b,e1,e2⟩:=h
  exact⟨b,hn.trans e1,e2⟩
 | prow xs=>
  rcases h with⟨b,o,c,T,cs',bs,Ss,e1,e2⟩|⟨q1,q2,b,o,q3⟩
  ·exact .inl ⟨b,o,c,T,cs',bs,Ss,hn.trans e1,e2⟩
  ·exact .inr ⟨q1,q2,b,o,hn.trans q3⟩
theorem renO1_down {m:Nat} {φ:Name→Name} {ρ2:Rho} (h2:∀n,okN m n→ρ2 (φ n)=ρ n) {n n':Name} (hn:ρ2 n'=ρ n) {S:List Nat} {ob:Ob A} (h:ObRel R ρ2 M w n' S (renO1 φ ob)) (hk:okOb m ob):ObRel R ρ M w n S ob:=by
 cases ob with
 | box cs=>
  obtain⟨b,T,cs',e1,e2,e3,e4,e5⟩:=h
  exact⟨b,T,cs',e1,by rw[hn,List.length_map] at e2;exact e2,e3,renCs1_down h2 e4 hk,e5⟩
 | row z es f=>
  rcases h with⟨b,o,c,T,cs',e1,e2,e3,e4,e5,e6,e7,e8⟩|⟨q1,q2,b,o,q3⟩
  case inr=>exact .inr ⟨q1,q2,b,o,hn.symm.trans q3⟩
  refine .inl ⟨b,o,c,T,cs',e1,hn.symm.trans e2,e3,e4,e5,e6,fun i k e v he hv=>?_,e8⟩
  obtain⟨v',q1,q2⟩:=e7 i k e v he hv
  exact⟨v',q1,(hk e (List.mem_of_getElem? he) v (List.mem_of_getElem? hv)).any q2⟩
 | abs x=>
  obtain⟨b,e1,e2⟩:=h
  exact⟨b,hn.symm.trans e1,e2⟩
 | prow xs=>
  rcases h with⟨b,o,c,T,cs',bs,Ss,e1,e2⟩|⟨q1,q2,b,o,q3⟩
  ·exact .inl ⟨b,o,c,T,cs',bs,Ss,hn.symm.trans e1,e2⟩
  ·exact .inr ⟨q1,q2,b,o,hn.symm.trans q3⟩
theorem renC1_id {v:V}:renC1 id v=v:=by cases v<;>rfl
theorem renA1_id {v:V}:renA1 id v=v:=by
 unfold renA1
 split
 ·rw[show renC1 id=id from funext fun _=>renC1_id,List.map_id]
 ·exact renC1_id
theorem renG1_id {v:V}:renG1 id v=v:=by
 unfold renG1
 split
 ·rw[show renA1 id=id from funext fun _=>renA1_id,List.map_id]
 ·exact renA1_id
theorem renO1_id {ob:Ob A}:renO1 id ob=ob:=by
 cases ob with
 | box cs=>show Ob.box (cs.map (renC1 id))=_;rw[show renC1 id=id from funext fun _=>renC1_id,List.map_id]
 | _=>rfl
def canon (m:Nat):List Name:=(List.range m).map fun j=>(0,j)
theorem canon_get {m j:Nat} {n:Name}:(canon m)[j]?=some n↔j<m∧n=(0,j):=by
 unfold canon
 rw[List.getElem?_map]
 constructor
 ·intro h
  by_cases hj:j<m
  ·rw[List.getElem?_range hj] at h;exact⟨hj,(Option.some.inj h).symm⟩
  ·rw[List.getElem?_eq_none (by simp;omega)] at h;cases h
 ·rintro⟨h,rfl⟩
  rw[List.getElem?_range h];rfl
theorem canon_nodup (m:Nat):(canon m).Nodup:=List.pairwise_map.2 (List.nodup_range.imp fun h e=>h (by cases e;rfl))
theorem zip_iff {α β:Type} {l:List α} {l':List β} {p:α×β}:p∈l.zip l'↔∃j:Nat,l[j]?=some p.1∧l'[j]?=some p.2:=by
 rw[List.mem_iff_getElem?]
 constructor
 ·rintro⟨j,h⟩;exact⟨j,List.getElem?_zip_eq_some.1 h⟩
 ·rintro⟨j,h⟩;exact⟨j,List.getElem?_zip_eq_some.2 h⟩
def ATriple (P:Program) (G:Nat→V) (R:Rep A) (f:FuncId) (args:List V) (obs:List (Ob A)) (r:V) (obs':List (Ob A)) (nw:Option (Ob A)):Prop:=
 ((∀v∈args,okA obs.length v)∧(∀o∈obs,okOb obs.length o)∧okG (obs.length+1) r∧(∀o∈obs',okOb (obs.length+1) o)∧(∀o,nw=some o→okOb (obs.length+1) o))∧
 XTriple P G R f args (canon obs.length) obs (0,obs.length) r obs' nw
theorem ATriple.at (l:List Name) (d:Name) {f:FuncId} {args:List V} {obs obs':List (Ob A)} {r:V} {nw:Option (Ob A)} (h:ATriple P G R f args obs r obs' nw) (hl:l.length=obs.length) :
  XTriple P G R f (args.map (renA1 (nameAt (l++[d])))) l (obs.map (renO1 (nameAt (l++[d])))) d (renG1 (nameAt (l++[d])) r) (obs'.map (renO1 (nameAt (l++[d])))) (nw.map (renO1 (nameAt (l++[d])))):=by
 obtain⟨⟨k1,k2,k3,k4,k5⟩,hf,hl2,hx⟩:=h
 refine⟨hf,by simp[hl2],fun w M ρ S args' hG hM hv hd hnd hobs hdis hblt=>?_⟩
 have getl:∀{j:Nat},j<obs.length→∃n,l[j]?=some n∧nameAt (l++[d]) (0,j)=n:=fun {j} hj=>by
  refine⟨l[j]'(by omega),List.getElem?_eq_getElem _,nameAt_get ?_⟩
  rw[List.getElem?_append_left (by omega)]
  exact List.getElem?_eq_getElem _
 have getd:nameAt (l++[d]) (0,obs.length)=d:=nameAt_get (by rw[List.getElem?_append_right (by omega),hl];simp)
 generalize nameAt (l++[d])=φ at *
 let ρc:Rho:=fun n=>if n.1=0∧n.2<obs.length then ρ (φ n) else none
 have hρ:∀n,okN obs.length n→ρ (φ n)=ρc n:=fun n hn=>by simp only[ρc];rw[if_pos ⟨hn.1,hn.2⟩]
 have hv':VsRel ρc M args args':=renAs1_down hρ hv k1
 have hzip:∀{j:Nat} {ob:Ob A} {n:Name},l[j]?=some n→obs[j]?=some ob→(n,renO1 φ ob)∈l.zip (obs.map (renO1 φ)):=fun {j ob n} h1 h2=>zip_iff.2 ⟨j,h1,by rw[List.getElem?_map,h2];rfl⟩
 have hlt:∀{j:Nat} {ob:Ob A},obs[j]?=some ob→j<obs.length:=fun {j ob} h=>(List.getElem?_eq_some_iff.1 h).1
 have hnamed:∀{j:Nat} {n:Name},l[j]?=some n→∃x,ρ n=some x:=fun {j n} h=>by
  have hj:j<obs.length:=by have:=(List.getElem?_eq_some_iff.1 h).1;omega
  exact(hobs _ (hzip h (List.getElem?_eq_getElem hj))).named
 have hdl:∀{j:Nat} {n:Name},l[j]?=some n→n≠d:=fun {j n} h e=>by
  obtain⟨x,hx⟩:=hnamed h
  rw[e,hd] at hx;cases hx
 refine(hx w M ρc (fun n=>S (φ n)) args' hG hM hv' (by simp[ρc]) (canon_nodup _) ?_ ?_ ?_).mono fun e w' he=>?_
 ·intro p hp
  obtain⟨j,h1,h2⟩:=zip_iff.1 hp
  obtain⟨hj,h1⟩:=canon_get.1 h1
  obtain⟨n,h3,h4⟩:=getl hj
  rw[h1]
  have:=hobs _ (hzip h3 h2)
  refine renO1_down hρ (n':=n) (by rw[←hρ _ ⟨rfl,hj⟩];show ρ n=ρ (φ (0,j));rw[h4]) ?_ (k2 _ (List.mem_of_getElem? h2))
  show ObRel R ρ M w n (S (φ (0,j))) _
  rw[h4];exact this
 ·intro p hp q hq hne
  obtain⟨j,h1,h2⟩:=zip_iff.1 hp
  obtain⟨hj,h1⟩:=canon_get.1 h1
  obtain⟨n,h3,h4⟩:=getl hj
  obtain⟨j',h1',h2'⟩:=zip_iff.1 hq
  obtain⟨hj',h1'⟩:=canon_get.1 h1'
  obtain⟨n',h3',h4'⟩:=getl hj'
  rw[h1,h1'] at hne ⊢
  show ∀b∈S (φ (0,j)),b∉S (φ (0,j'))
  rw[h4,h4']
  refine hdis _ (hzip h3 h2) _ (hzip h3' h2') (fun e=>hne ?_)
  simp only at e
  subst e
  have:=(List.getElem?_inj (by omega) hnd).1 (h3.trans h3'.symm)
  rw[this]
 ·intro p hp
  obtain⟨j,h1,h2⟩:=zip_iff.1 hp
  obtain⟨hj,h1⟩:=canon_get.1 h1
  obtain⟨n,h3,h4⟩:=getl hj
  rw[h1]
  show ∀b∈S (φ (0,j)),_
  rw[h4]
  exact hblt _ (hzip h3 h2)
 ·obtain⟨r',M',ρ',S',he,X,hn,hr⟩:=he
  let ρ2:Rho:=fun n=>if n=d then ρ' (0,obs.length) else ρ n
  have h2:∀n,okN (obs.length+1) n→ρ2 (φ n)=ρ' n:=fun n hn=>by
   obtain⟨n1,n2⟩:=n
   obtain⟨h1,h3⟩:=hn
   simp only at h1 h3
   subst h1
   by_cases e:n2=obs.length
   ·subst e
    show(if φ (0,obs.length)=d then _ else _)=_
    rw[if_pos getd]
   ·have hj:n2<obs.length:=by omega
    obtain⟨n,q1,q2⟩:=getl hj
    show(if φ (0,n2)=d then _ else ρ (φ (0,n2)))=_
    rw[if_neg (by rw[q2];exact hdl q1),X.rho (0,n2) (fun e'=>e (by cases e';rfl)),hρ _ ⟨rfl,hj⟩]
  let S2:Name→List Nat:=fun n=>if n=d then S' (0,obs.length) else S' (0,l.idxOf n)
  have hS2:∀{j:Nat} {n:Name},l[j]?=some n→S2 n=S' (0,j):=fun {j n} h=>by
   show(if n=d then _ else _)=_
   rw[if_neg (hdl h)]
   obtain⟨hj,rfl⟩:=List.getElem?_eq_some_iff.1 h
   rw[List.Nodup.idxOf_getElem hnd]
  have hS2d:S2 d=S' (0,obs.length):=if_pos rfl
  have each:∀p∈l.zip (obs'.map (renO1 φ))++newOb d (nw.map (renO1 φ)),∃q∈(canon obs.length).zip obs'++newOb (0,obs.length) nw,p.2=renO1 φ q.2∧p.1=φ q.1∧S2 p.1=S' q.1∧okN (obs.length+1) q.1∧okOb (obs.length+1) q.2:=by
   intro p hp
   rcases List.mem_append.1 hp with hp|hp
   ·obtain⟨j,q1,q2⟩:=zip_iff.1 hp
    rw[List.getElem?_map,Option.map_eq_some_iff] at q2
    obtain⟨ob,q2,q3⟩:=q2
    have hj:j<obs.length:=by have:=(List.getElem?_eq_some_iff.1 q1).1;omega
    obtain⟨n,q4,q5⟩:=getl hj
    rw[q1] at q4;cases q4
    exact⟨((0,j),ob),List.mem_append_left _ (zip_iff.2 ⟨j,canon_get.2 ⟨hj,rfl⟩,q2⟩),q3.symm,q5.symm,hS2 q1,⟨rfl,by simp only;omega⟩,k4 _ (List.mem_of_getElem? q2)⟩
   ·cases hnw:nw with
    | none=>rw[hnw] at hp;cases hp
    | some ob=>
     rw[hnw] at hp
     simp only[newOb,Option.map_some,List.mem_singleton] at hp
     subst hp
     exact⟨((0,obs.length),ob),List.mem_append_right _ (by simp[newOb]),rfl,getd.symm,hS2d,⟨rfl,by simp⟩,k5 _ hnw⟩
  have back:∀{b:Nat},(∃q∈(canon obs.length).zip obs,b∈S (φ q.1))↔∃q∈l.zip (obs.map (renO1 φ)),b∈S q.1:=fun {b}=>by
   constructor
   ·rintro⟨q,q1,q2⟩
    obtain⟨j,q3,q4⟩:=zip_iff.1 q1
    obtain⟨hj,q3⟩:=canon_get.1 q3
    obtain⟨n,q5,q6⟩:=getl hj
    rw[q3] at q2
    exact⟨_,hzip q5 q4,by simp only;rw[←q6];exact q2⟩
   ·rintro⟨q,q1,q2⟩
    obtain⟨j,q3,q4⟩:=zip_iff.1 q1
    rw[List.getElem?_map,Option.map_eq_some_iff] at q4
    obtain⟨ob,q4,_⟩:=q4
    obtain⟨n,q5,q6⟩:=getl (hlt q4)
    rw[q3] at q5;cases q5
    exact⟨((0,j),ob),zip_iff.2 ⟨j,canon_get.2 ⟨hlt q4,rfl⟩,q4⟩,by simp only;rw[show φ (0,j)=q.1 from q6];exact q2⟩
  refine⟨r',M',ρ2,S2,he,{
   le:=X.le
   mem:=X.mem
   size:=X.size
   hos:=X.hos
   tape:=X.tape
   output:=X.output
   rho:=fun n hn=>if_neg hn
   heap:=fun b hb hb'=>X.heap b hb fun p hp hbp=>by
    obtain⟨q,q1,q2⟩:=back.1 ⟨p,hp,hbp⟩
    exact hb' q q1 q2
   new:=fun b o v hv=>by
    rcases X.new b o v hv with h|h|h
    ·exact .inl h
    ·exact .inr (.inl h)
    ·exact .inr (.inr (back.1 h))
   objs:=fun p hp=>by
    obtain⟨q,q1,q2,q3,q4,q5,q6⟩:=each p hp
    rw[q4,q2]
    exact renO1_up h2 (by rw[q3];exact h2 _ q5) (X.objs q q1) q6
   own:=fun p hp b hb=>by
    obtain⟨q,q1,q2,q3,q4,q5,q6⟩:=each p hp
    rw[q4] at hb
    rcases X.own q q1 b hb with h|h
    ·exact .inl (back.1 h)
    ·exact .inr h
   disj:=fun p hp p' hp' hne b hb=>by
    obtain⟨q,q1,q2,q3,q4,q5,q6⟩:=each p hp
    obtain⟨q',q1',q2',q3',q4',q5',q6'⟩:=each p' hp'
    rw[q4] at hb
    rw[q4']
    exact X.disj q q1 q' q1' (fun e=>hne (by rw[q3,q3',e])) b hb
   blt:=fun p hp b hb=>by
    obtain⟨q,q1,q2,q3,q4,q5,q6⟩:=each p hp
    rw[q4] at hb
    exact X.blt q q1 b hb},fun hnw=>?_,renG1_up h2 hr k3⟩
  have:nw=none:=by cases nw<;>simp_all
  show(if d=d then _ else _)=_
  rw[if_pos rfl]
  exact hn this
theorem okC_mono {m m':Nat} (hm:m≤m') {v:V} (h:okC m v):okC m' v:=by
 cases v<;>simp only[okC,okN] at *<;>first|exact h|omega
theorem okA_mono {m m':Nat} (hm:m≤m') {v:V} (h:okA m v):okA m' v:=by
 unfold okA at *
 split<;>(rename_i hv;first|exact fun c hc=>okC_mono hm (h c hc)|(split at h<;>first|(exact absurd rfl (hv _))|exact okC_mono hm h))
theorem okG_mono {m m':Nat} (hm:m≤m') {v:V} (h:okG m v):okG m' v:=by
 unfold okG at *
 split<;>(rename_i hv;first|exact fun c hc=>okA_mono hm (h c hc)|(split at h<;>first|(exact absurd rfl (hv _))|exact okA_mono hm h))
theorem okOb_mono {m m':Nat} (hm:m≤m') {ob:Ob A} (h:okOb m ob):okOb m' ob:=by
 cases ob with
 | box cs=>exact fun c hc=>okC_mono hm (h c hc)
 | row z es f=>exact h
 | abs x=>exact h
 | prow xs=>exact h
def aok (m:Nat) (r:V) (obs':List (Ob A)) (nw:Option (Ob A)) (vs:List V) (st2:St A):Prop:=match nw with
 | none=>retOf vs=r∧st2.arena=obs'.map some
 | some ob=>∃n0:Name,n0.1≠0∧vs=[.ref n0 0]∧r=.ref (0,m) 0∧st2.get n0=some ob∧st2.arena=obs'.map some
def entryA (n:Nat) (args:List V) (obs:List (Ob A)):St A:={tmps:=args++List.replicate (n-args.length) .undef,objs:=List.replicate n (0,none),arena:=obs.map some}
theorem ATriple.call {f:FuncId} {args:List V} {obs obs':List (Ob A)} {r:V} {nw:Option (Ob A)} (h:ATriple P G R f args obs r obs' nw) {vs:List V} {d:Name} {obs0:List (Ob A)} (hl:(rootsOf vs).length=obs.length)
  (hv:args.map (renA1 (nameAt (rootsOf vs++[d])))=vs) (ho:obs.map (renO1 (nameAt (rootsOf vs++[d])))=obs0) :
  XTriple P G R f vs (rootsOf vs) obs0 d (renG1 (nameAt (rootsOf vs++[d])) r) (obs'.map (renO1 (nameAt (rootsOf vs++[d])))) (nw.map (renO1 (nameAt (rootsOf vs++[d])))):=by
 have:=h.at (rootsOf vs) d hl
 rw[hv,ho] at this
 exact this
end Go.Vm
namespace Go.Vm
open Go
theorem PTriple.weak {P:Program} {G:Nat→V} {f:FuncId} {args args':List V} {r r':V} (h:PTriple P G f args r)
  (ha:∀M l,VsRel (fun _=>none) M args' l→VsRel (fun _=>none) M args l) (hr:∀M v,VRel (fun _=>none) M r v→VRel (fun _=>none) M r' v):PTriple P G f args' r':=by
 rcases h with h|h
 ·refine .inl ⟨h.1,fun w M args' hG hM hv=>Calls.mono (h.2 w M args' hG hM (ha _ _ hv)) ?_⟩
  rintro e w' ⟨x,M',h1,h2,h3⟩
  exact⟨x,M',h1,h2,hr _ _ h3⟩
 ·refine .inr fun w M args' hM hv=>?_
  obtain⟨v,h1,h2⟩:=h w M args' hM (ha _ _ hv)
  exact⟨v,h1,hr _ _ h2⟩
theorem VRel.lst_of_nils {ρ:Rho} {M:Mem} {sz:Nat} {v:Value} (h:VRel ρ M .nils v):VRel ρ M (.lst sz []) v:=by
 cases h;exact .lst0
theorem PTriple.to_lst {P:Program} {G:Nat→V} {f:FuncId} {args:List V} {sz:Nat} (h:PTriple P G f args .nils):PTriple P G f args (.lst sz []):=
 h.weak (fun _ _ h=>h) fun _ _ h=>h.lst_of_nils
inductive Nilled:List V→List V→Prop
 | nil:Nilled [] []
 | same {v:V} {l l':List V}:Nilled l l'→Nilled (v::l) (v::l')
 | nils {sz:Nat} {l l':List V}:Nilled l l'→Nilled (.nils::l) (.lst sz []::l')
theorem Nilled.rel {l l':List V} (h:Nilled l l') {ρ:Rho} {M:Mem}:∀{vs:List Value},VsRel ρ M l vs→VsRel ρ M l' vs:=by
 induction h with
 | nil=>exact fun h=>h
 | same _ ih=>intro vs h;obtain⟨v',r,rfl,h1,h2⟩:=h.uncons;exact .cons h1 (ih h2)
 | nils _ ih=>intro vs h;obtain⟨v',r,rfl,h1,h2⟩:=h.uncons;exact .cons h1.lst_of_nils (ih h2)
def V.flat:V→Bool
 | .int .. | .bool _=>true
 | _=>false
def pureB (es:List (List V)):Bool:=es.all fun e=>e.all V.flat
theorem pure_of {es:List (List V)} (h:pureB es=true):PureEs es:=fun e he v hv=>by
 have:=List.all_eq_true.1 (List.all_eq_true.1 h e he) v hv
 cases v<;>first|exact .int _ _|exact .bool _|cases this
def allOneB (es:List (List V)) (sz:Nat):Bool:=es.all fun e=>e.length==sz&&e.all V.one
theorem allOne_of {es:List (List V)} {sz:Nat} (h:allOneB es sz=true):allOne es sz:=fun e he=>by
 have:=List.all_eq_true.1 h e he
 simpa using this
end Go.Vm
namespace Go.Vm
open Go
variable {A:Type} {E:Env} {st:St A} {a:Act} {w:World}
def St.adopt (st:St A) (t s sz:Nat):St A:=match lget st.tmps t,lget st.objs s with
 | some .nils,some p=>{st with tmps:=lset st.tmps t (.rsl (s+1,p.1+1) sz 0 0),objs:=lset st.objs s (p.1+1,some (.row sz [] false))}
 | _,_=>st
theorem Sat.adopt [Deep A] {C:Cx A} (h:Sat C.R E st a w) (t s sz:Nat):Sat C.R E (st.adopt t s sz) a w:=by
 unfold St.adopt
 split
 ·rename_i p h1 h2
  rw[lget_eq] at h1 h2
  obtain⟨ρ,M,S,hr⟩:=h
  obtain⟨v',hv',hv⟩:=hr.tmps.get h1
  have hk:=hr.new (s:=s) (g:=p.1) (o₀:=p.2) (by rw[h2]) (x:=(0,0,0)) (T:=[]) (M':=M) (w':=w) (ob:=.row sz [] false) (.inr ⟨rfl,rfl,0,0,by simp⟩) (fun _ hk=>by cases hk) (Mem.le_refl _) (fun _ _ _ hv=>.inl hv)
   (fun _ _ _ _ _ _ _=>rfl) hr.mem (fun _ _ _ _ _ _=>rfl) (fun _ _ _=>rfl) (Nat.le_refl _) rfl rfl rfl
  refine⟨_,M,_,{hk with defers:=hk.defers,tmps:=?_}⟩
  have ht:=hk.tmps
  rw[St.tmps_setOb] at ht
  show VsRel _ M (lset st.tmps t (.rsl (s+1,p.1+1) sz 0 0)) _
  rw[lset_eq]
  refine⟨by simpa using ht.1,fun i v u hi hu=>?_⟩
  rw[List.getElem?_set] at hi
  split at hi
  ·rename_i e
   subst e
   split at hi
   ·cases hi
    rw[hv'] at hu
    cases hu
    cases hv
    exact .rsl0
   ·cases hi
  ·exact ht.2 i v u hi hu
 ·exact h
theorem VLoop.adopt [Deep A] {C:Cx A} {b:Code} {K:Exit→St A→Prop} (t s sz:Nat) (h:forceSt (st.adopt t s sz) fun st=>VLoop C E b st K):VLoop C E b st K:=by
 rw[forceSt_eq] at h
 unfold VLoop at h ⊢
 exact fun a w hs=>h a w (hs.adopt t s sz)
end Go.Vm
namespace Go.Vm
open Go
inductive DV where
 | mk (cs:List V) (inner:List (Ob DV))
instance:Deep DV where
 op x:=match x with
  | .mk cs inner=>(cs,inner)
 thing cs:=some (.mk cs [])
 thingOp h:=by cases h;rfl
section
variable {A:Type} {R R':Rep A} {ρ:Rho} {M M':Mem} {w w':World}
def RLe (R R':Rep A):Prop:=(∀x,R.size x=R'.size x)∧∀{x M w b S},R.rep x M w b S→R'.rep x M w b S
theorem ObRel.monoR (h:RLe R R') {n:Name} {B:List Nat} {ob:Ob A} (ho:ObRel R ρ M w n B ob):ObRel R' ρ M w n B ob:=by
 cases ob with
 | box cs=>exact ho
 | row z es f=>exact ho
 | abs x=>
  obtain⟨b,h1,h2⟩:=ho
  exact⟨b,by rw[←h.1];exact h1,h.2 h2⟩
 | prow xs=>
  rcases ho with⟨b,o,c,T,cs',bs,Ss,h1,h2⟩|q
  ·exact .inl ⟨b,o,c,T,cs',bs,Ss,h1,{h2 with rep:=fun j x hx=>h.2 (h2.rep j x hx)}⟩
  ·exact .inr q
end
section
variable {A:Type} [Deep A] {R R':Rep A} {ρ:Rho} {M M':Mem} {w w':World}
theorem OpenRel.frame {x:A} {b:Nat} {S:List Nat} (h:OpenRel R x M w b S) (hm:M.le M') (hM:∀k∈S,∀o,M' k o=M k o) (hh:∀k∈S,w'.heap[k]?=w.heap[k]?):OpenRel R x M' w' b S:=by
 obtain⟨ρ,Ss,T,cs',o⟩:=h
 have hb:b∈S:=by rw[o.all];exact List.mem_cons_self
 have hS:∀i,i<(Deep.op x).2.length→∀k∈Ss i,k∈S:=fun i hi k hk=>by
  rw[o.all];exact List.mem_cons_of_mem _ (List.mem_flatten.2 ⟨Ss i,List.mem_map.2 ⟨i,List.mem_range.2 hi,rfl⟩,hk⟩)
 exact⟨ρ,Ss,T,cs',{o with
  heap:=(hh b hb).trans o.heap
  rel:=o.rel.mono (Rho.le_refl _) hm
  mem:=fun i=>(hM b hb i).trans (o.mem i)
  inner:=fun i ob hi=>by
   have hl:=(List.getElem?_eq_some_iff.1 hi).1
   exact(o.inner i ob hi).of_heap rfl (Rho.le_refl _) hm (fun k hk=>hM k (hS i hl k hk)) fun k hk=>hh k (hS i hl k hk)}⟩
theorem OpenRel.monoR (h:RLe R R') {x:A} {b:Nat} {S:List Nat} (ho:OpenRel R x M w b S):OpenRel R' x M w b S:=by
 obtain⟨ρ,Ss,T,cs',o⟩:=ho
 exact⟨ρ,Ss,T,cs',{o with inner:=fun i ob hi=>(o.inner i ob hi).monoR h}⟩
variable (A) in
def iterRep:Nat→Rep A
 | 0=>⟨fun _ _ _ _ _=>False,fun h=>h.elim,fun x=>(Deep.op x).1.length⟩
 | k+1=>⟨OpenRel (iterRep k),fun h=>h.frame,fun x=>(Deep.op x).1.length⟩
theorem iterRep_size (k:Nat) (x:A):(iterRep A k).size x=(Deep.op x).1.length:=by cases k<;>rfl
theorem iterRep_succ:∀k,RLe (iterRep A k) (iterRep A (k+1))
 | 0=>⟨fun _=>rfl,fun h=>h.elim⟩
 | k+1=>⟨fun _=>rfl,fun h=>OpenRel.monoR (iterRep_succ k) h⟩
theorem iterRep_le {k k':Nat} (h:k≤k'):RLe (iterRep A k) (iterRep A k'):=by
 induction h with
 | refl=>exact⟨fun _=>rfl,fun h=>h⟩
 | step _ ih=>exact⟨fun x=>by rw[iterRep_size,iterRep_size],fun h=>(iterRep_succ _).2 (ih.2 h)⟩
variable (A) in
def dvRep:Rep A:=⟨fun x M w b S=>∃k,(iterRep A k).rep x M w b S,fun⟨k,h⟩ hm hM hh=>⟨k,(iterRep A k).frame h hm hM hh⟩,fun x=>(Deep.op x).1.length⟩
theorem iterRep_dv (k:Nat):RLe (iterRep A k) (dvRep A):=⟨iterRep_size k,fun h=>⟨k,h⟩⟩
theorem bounded {P:Nat→Nat→Prop} (hm:∀i k k',k≤k'→P i k→P i k'):∀n,(∀i,i<n→∃k,P i k)→∃K,∀i,i<n→P i K
 | 0,_=>⟨0,fun i hi=>by cases hi⟩
 | n+1,h=>by
  obtain⟨K,hK⟩:=bounded hm n fun i hi=>h i (by omega)
  obtain⟨k,hk⟩:=h n (by omega)
  refine⟨max K k,fun i hi=>?_⟩
  by_cases e:i=n
  ·subst e;exact hm _ _ _ (by omega) hk
  ·exact hm _ _ _ (by omega) (hK i (by omega))
theorem ObRel.iter {n:Name} {B:List Nat} {ob:Ob A} (h:ObRel (dvRep A) ρ M w n B ob):∃k,ObRel (iterRep A k) ρ M w n B ob:=by
 cases ob with
 | box cs=>exact⟨0,h⟩
 | row z es f=>exact⟨0,h⟩
 | abs x=>
  obtain⟨b,h1,k,h2⟩:=h
  exact⟨k,b,by rw[iterRep_size];exact h1,h2⟩
 | prow xs=>
  rcases h with⟨b,o,c,T,cs',bs,Ss,h1,h2⟩|q
  ·obtain⟨K,hK⟩:=bounded (P:=fun j k=>∀x,xs[j]?=some x→(iterRep A k).rep x M w (bs j) (Ss j)) (fun j k k' hk h x hx=>(iterRep_le hk).2 (h x hx)) xs.length fun j hj=>by
    obtain⟨k,hk⟩:=h2.rep j xs[j] (List.getElem?_eq_getElem hj)
    refine⟨k,fun x hx=>?_⟩
    rw[List.getElem?_eq_getElem hj] at hx
    cases hx;exact hk
   exact⟨K,.inl ⟨b,o,c,T,cs',bs,Ss,h1,{h2 with rep:=fun j x hx=>hK j (List.getElem?_eq_some_iff.1 hx).1 x hx}⟩⟩
  ·exact⟨0,.inr q⟩
theorem dvOk:RepOk (dvRep A) where
 size _:=rfl
 opens:=by
  rintro x M w b S ⟨k,h⟩
  cases k with
  | zero=>exact h.elim
  | succ k=>exact OpenRel.monoR (iterRep_dv k) h
 shuts:=by
  rintro x M w b S ⟨ρ,Ss,T,cs',o⟩
  obtain⟨K,hK⟩:=bounded (P:=fun i k=>∀ob,(Deep.op x).2[i]?=some ob→ObRel (iterRep A k) ρ M w (0,i) (Ss i) ob) (fun i k k' hk h ob hob=>(h ob hob).monoR (iterRep_le hk)) (Deep.op x).2.length fun i hi=>by
   obtain⟨k,hk⟩:=(o.inner i _ (List.getElem?_eq_getElem hi)).iter
   refine⟨k,fun ob hob=>?_⟩
   rw[List.getElem?_eq_getElem hi] at hob
   cases hob;exact hk
  exact⟨K+1,ρ,Ss,T,cs',{o with inner:=fun i ob hi=>hK i (List.getElem?_eq_some_iff.1 hi).1 ob hi}⟩
end
end Go.Vm
