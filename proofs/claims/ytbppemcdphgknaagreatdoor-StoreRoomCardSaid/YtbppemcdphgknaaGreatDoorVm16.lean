/- A part of the proofs over the seat YtbppemcdphgknaaGreatDoor. -/
import Derived.Test.YtbppemcdphgknaaGreatDoorVm16a
set_option linter.unusedVariables false
set_option linter.unusedSimpArgs false
namespace Go.Vm
open Go
variable {A:Type} {E:Env} {st st':St A} {a:Act} {w:World}
def maskOf (acc:List Nat):List Edge→Nat
 | []=>0
 | e::r=>match Region.binds .any e with
  | true=>maskOf acc r ||| (2 ^ e.on ||| (lget acc e.on).getD 0)
  | false=>maskOf acc r
def masks:List Oper→List Nat→List Nat
 | [],acc=>acc
 | o::r,acc=>masks r (acc++[maskOf acc o.after.toList])
def meets (a b:List Loc):Bool:=a.any fun x=>b.any fun y=>x.1==y.1&&x.2==y.2
def confl (p q:Fp):Bool:=meets p.outs q.ins||(meets p.outs q.outs||meets q.outs p.ins)
def okOne (m:Nat) (q:Fp):Nat→List Fp→Bool
 | _,[]=>true
 | i,p::r=>(m.testBit i || !confl p q)&&okOne m q (i+1) r
def okAll (prev:List Fp):List Nat→List Fp→Bool
 | m::ms,q::r=>okOne m q 0 prev&&okAll (prev++[q]) ms r
 | _,_=>true
def fwd:Nat→List Oper→Bool
 | _,[]=>true
 | i,o::r=>(o.after.toList.all fun e=>!Region.binds .any e||decide (e.on<i))&&fwd (i+1) r
def indep (ops:List Oper) (fps:List Fp):Bool:=fwd 0 ops&&okAll [] (masks ops []) fps.reverse
theorem meets_of {a b:List Loc} {l:Loc} (ha:l∈a) (hb:l∈b):meets a b=true:=by
 unfold meets
 rw[List.any_eq_true]
 exact⟨l,ha,by rw[List.any_eq_true];exact⟨l,hb,by simp⟩⟩
theorem okOne_spec {m:Nat} {q:Fp}:∀{prev:List Fp} {i:Nat},okOne m q i prev=true→∀j p,prev[j]?=some p→confl p q=true→m.testBit (i+j)=true
 | [],_,_,j,p,h,_=>by simp at h
 | x::r,i,h,j,p,hj,hc=>by
  simp only[okOne,Bool.and_eq_true,Bool.or_eq_true,Bool.not_eq_true'] at h
  cases j with
  | zero=>
   simp only[List.getElem?_cons_zero,Option.some.injEq] at hj
   subst hj
   rcases h.1 with h1|h1
   ·exact h1
   ·rw[hc] at h1;cases h1
  | succ j=>
   have:=okOne_spec h.2 j p (by simpa using hj) hc
   rwa [show i+1+j=i+(j+1) by omega] at this
theorem okAll_spec:∀{ms:List Nat} {qs prev:List Fp},okAll prev ms qs=true→∀k m q,ms[k]?=some m→qs[k]?=some q→∀i p,(prev++qs.take k)[i]?=some p→confl p q=true→m.testBit i=true
 | [],_,_,_,k,m,q,hm,_,_,_,_,_=>by simp at hm
 | _::_,[],_,_,k,m,q,_,hq,_,_,_,_=>by simp at hq
 | m0::ms,q0::qs,prev,h,k,m,q,hm,hq,i,p,hi,hc=>by
  simp only[okAll,Bool.and_eq_true] at h
  cases k with
  | zero=>
   simp only[List.getElem?_cons_zero,Option.some.injEq] at hm hq
   subst hm;subst hq
   have:=okOne_spec h.1 i p (by simpa using hi) hc
   rwa [Nat.zero_add] at this
  | succ k=>
   refine okAll_spec h.2 k m q (by simpa using hm) (by simpa using hq) i p ?_ hc
   simpa using hi
theorem fwd_spec:∀{l:List Oper} {i:Nat},fwd i l=true→∀k o,l[k]?=some o→∀e∈o.after.toList,Region.binds .any e=true→e.on<i+k
 | [],_,_,k,o,h,_,_,_=>by simp at h
 | x::r,i,h,k,o,hk,e,he,hb=>by
  simp only[fwd,Bool.and_eq_true,List.all_eq_true,Bool.or_eq_true,Bool.not_eq_true',decide_eq_true_eq] at h
  cases k with
  | zero=>
   simp only[List.getElem?_cons_zero,Option.some.injEq] at hk
   subst hk
   rcases h.1 e he with h1|h1
   ·rw[hb] at h1;cases h1
   ·simpa using h1
  | succ k=>
   have:=fwd_spec h.2 k o (by simpa using hk) e he hb
   omega
theorem maskOf_spec {acc:List Nat}:∀{es:List Edge} {i:Nat},(maskOf acc es).testBit i=true→∃e∈es,Region.binds .any e=true∧(i=e.on∨((lget acc e.on).getD 0).testBit i=true)
 | [],i,h=>by simp[maskOf] at h
 | e::r,i,h=>by
  unfold maskOf at h
  split at h
  ·rename_i hb
   simp only[Nat.testBit_or,Bool.or_eq_true] at h
   rcases h with h|h|h
   ·obtain⟨e',h1,h2⟩:=maskOf_spec h
    exact⟨e',List.mem_cons_of_mem _ h1,h2⟩
   ·rw[Nat.testBit_two_pow] at h
    exact⟨e,by simp,hb,.inl (by simpa using h:e.on=i).symm⟩
   ·exact⟨e,by simp,hb,.inr h⟩
  ·obtain⟨e',h1,h2⟩:=maskOf_spec h
   exact⟨e',List.mem_cons_of_mem _ h1,h2⟩
theorem masks_spec:∀{l:List Oper} {acc:List Nat},(∃new,masks l acc=acc++new∧new.length=l.length)∧∀k o,l[k]?=some o→∃m,(masks l acc)[acc.length+k]?=some m∧m=maskOf ((masks l acc).take (acc.length+k)) o.after.toList
 | [],acc=>⟨⟨[],by simp[masks],rfl⟩,fun k o h=>by simp at h⟩
 | x::r,acc=>by
  obtain⟨⟨new,h1,h2⟩,h3⟩:=masks_spec (l:=r) (acc:=acc++[maskOf acc x.after.toList])
  have e:masks (x::r) acc=masks r (acc++[maskOf acc x.after.toList]):=rfl
  refine⟨⟨maskOf acc x.after.toList::new,by rw[e,h1];simp,by simp[h2]⟩,fun k o hk=>?_⟩
  rw[e]
  cases k with
  | zero=>
   simp only[List.getElem?_cons_zero,Option.some.injEq] at hk
   subst hk
   rw[h1]
   exact⟨maskOf acc x.after.toList,by simp,by simp⟩
  | succ k=>
   have:=h3 k o (by simpa using hk)
   rw[List.length_append,List.length_singleton,show acc.length+1+k=acc.length+(k+1) by omega] at this
   exact this
def RcOk [Deep A] (C:Cx A) (all:List Oper) (st:St A) (o:Oper) (r:Rc A):Prop:=
 r.dst=o.dst∧((vguard all st o True False∧∃eff ns,OneRuns C st o eff ns∧r.eff=some eff∧r.fp=fpRun all o eff ns)∨(vguard all st o False True∧r.eff=none∧r.fp=fpSkip all o))
theorem vguard_cases {all:List Oper} {o:Oper} {X Y:Prop} (h:vguard all st o X Y):(X∧vguard all st o True False)∨(Y∧vguard all st o False True):=by
 unfold vguard at *
 cases hg:o.guard with
 | none=>simp only[hg] at h ⊢;exact .inl ⟨h,trivial⟩
 | some p=>
  obtain⟨j,want⟩:=p
  simp only[hg] at h ⊢
  cases hv:gval all st j with
  | none=>simp only[hv] at h
  | some ob=>
   simp only[hv] at h ⊢
   cases ob with
   | none=>exact .inr ⟨h,trivial⟩
   | some b=>
    cases want<;>cases b<;>simp only at h ⊢
    ·exact .inl ⟨h,trivial⟩
    ·exact .inr ⟨h,trivial⟩
    ·exact .inr ⟨h,trivial⟩
    ·exact .inl ⟨h,trivial⟩
theorem RcOk.fits [Deep A] {C:Cx A} {all:List Oper} {o:Oper} {r:Rc A} (h:RcOk C all st o r):r.fits:=by
 obtain⟨h1,⟨_,eff,ns,_,h2,h3⟩|⟨_,h2,h3⟩⟩:=h
 ·unfold Rc.fits;rw[h2,h3,h1];rfl
 ·unfold Rc.fits;rw[h2,h3,h1];rfl
theorem RcOk.agree [Deep A] {C:Cx A} {all:List Oper} {o:Oper} {r:Rc A} (h:RcOk C all st o r) (ha:∀l∈r.fp.ins,Vm.agree st st' l):RcOk C all st' o r:=by
 obtain⟨h1,⟨hg,eff,ns,h0,h2,h3⟩|⟨hg,h2,h3⟩⟩:=h
 ·rw[h3] at ha
  simp only[fpRun,List.mem_append] at ha
  refine⟨h1,.inl ⟨vguard_agree (fun l hl=>ha l (.inl hl)) hg,eff,ns,?_,h2,h3⟩⟩
  exact h0.agree (fun l hl=>ha l (.inr (.inl hl))) (fun l hl=>ha l (.inr (.inr (.inl hl)))) fun n hn=>ha _ (.inr (.inr (.inr (List.mem_map.2 ⟨n,hn,rfl⟩))))
 ·rw[h3] at ha
  exact⟨h1,.inr ⟨vguard_agree (fun l hl=>ha l hl) hg,h2,h3⟩⟩
theorem RcOk.go [Deep A] {C:Cx A} (hE:EOk C E) {all:List Oper} {o:Oper} {r:Rc A} (h:RcOk C all st o r) (hs:Sat C.R E st a w) {next:Act→World→Prop} {Q:Exit→Act→World→Prop}
  (hn:∀a' w',Sat C.R E (r.ap st) a' w'→next a' w'):if Region.wanted o (yielded all.toArray a.tmps) then o.wp C.P a w next Q else next (a.put o.dst undef) w:=by
 obtain⟨h1,⟨hg,eff,ns,h0,h2,h3⟩|⟨hg,h2,h3⟩⟩:=h
 ·rcases vguard_sound (C:=C) (E:=E) hg with⟨_,hw⟩|⟨hf,_⟩
  ·rw[if_pos (hw a w hs)]
   refine h0.sound hE a w hs next Q fun a' w' hs'=>hn a' w' ?_
   unfold Rc.ap
   rw[h2,h1];exact hs'
  ·exact hf.elim
 ·rcases vguard_sound (C:=C) (E:=E) hg with⟨hf,_⟩|⟨_,hw⟩
  ·exact hf.elim
  ·rw[if_neg (by rw[hw a w hs];simp)]
   refine hn _ _ ?_
   unfold Rc.ap
   rw[h2,h1];exact hs.put_undef _
def Trace [Deep A] (C:Cx A) (all:List Oper):List Oper→St A→List (Rc A)→Prop
 | [],_,[]=>True
 | o::l,st,r::rs=>RcOk C all st o r∧Trace C all l (r.ap st) rs
 | _,_,_=>False
theorem vregs_trace [Deep A] {C:Cx A} {all:List Oper}:∀{l:List Oper} {st:St A} {fps:List Fp} {K:St A→List Fp→Prop},vregs C all l st fps K→
  ∃rs,Trace C all l st rs∧K (rs.foldl (fun s r=>r.ap s) st) ((rs.map (·.fp)).reverse++fps)
 | [],st,fps,K,h=>⟨[],trivial,h⟩
 | o::l,st,fps,K,h=>by
  rw[vregs_cons] at h
  rcases vguard_cases h with⟨h,hg⟩|⟨h,hg⟩
  ·obtain⟨eff,ns,h0,h⟩:=vone_runs h
   rw[appK_eq] at h
   obtain⟨rs,h1,h2⟩:=vregs_trace h
   refine⟨⟨o.dst,some eff,fpRun all o eff ns⟩::rs,⟨⟨rfl,.inl ⟨hg,eff,ns,h0,rfl,rfl⟩⟩,h1⟩,?_⟩
   simpa[Rc.ap] using h2
  ·rw[putK_eq] at h
   obtain⟨rs,h1,h2⟩:=vregs_trace h
   refine⟨⟨o.dst,none,fpSkip all o⟩::rs,⟨⟨rfl,.inr ⟨hg,rfl,rfl⟩⟩,h1⟩,?_⟩
   simpa[Rc.ap] using h2
theorem sD_take {rs:List (Rc A)}:∀{i k:Nat} {s:St A},sD (fun m=>decide (m<i+k)) rs i s=(rs.take k).foldl (fun s r=>r.ap s) s:=by
 induction rs with
 | nil=>intro i k s;simp[sD]
 | cons r rs ih=>
  intro i k s
  cases k with
  | zero=>
   rw[List.take_zero,List.foldl_nil]
   exact sD_none fun m hm=>by simpa using hm
  | succ k=>
   rw[sD,if_pos (by simp)]
   have:=ih (i:=i+1) (k:=k) (s:=r.ap s)
   rw[show i+1+k=i+(k+1) by omega] at this
   rw[this];rfl
theorem Trace.get [Deep A] {C:Cx A} {all:List Oper}:∀{l:List Oper} {st:St A} {rs:List (Rc A)},Trace C all l st rs→rs.length=l.length∧
  ∀k o,l[k]?=some o→∃r,rs[k]?=some r∧RcOk C all ((rs.take k).foldl (fun s r=>r.ap s) st) o r
 | [],_,[],_=>⟨rfl,fun k o h=>by simp at h⟩
 | [],_,_::_,h=>h.elim
 | _::_,_,[],h=>h.elim
 | o::l,st,r::rs,⟨h1,h2⟩=>by
  obtain⟨h3,h4⟩:=Trace.get h2
  refine⟨by simp[h3],fun k o' hk=>?_⟩
  cases k with
  | zero=>
   simp only[List.getElem?_cons_zero,Option.some.injEq] at hk
   subst hk
   exact⟨r,rfl,h1⟩
  | succ k=>
   obtain⟨r',q1,q2⟩:=h4 k o' (by simpa using hk)
   exact⟨r',by simpa using q1,by simpa using q2⟩
theorem count_set:∀{l:List Bool} {i:Nat},l[i]?=some false→(l.set i true).count false+1=l.count false
 | [],_,h=>by simp at h
 | b::r,0,h=>by simp at h;subst h;simp
 | b::r,i+1,h=>by
  have:=count_set (l:=r) (i:=i) (by simpa using h)
  simp only[List.set_cons_succ,List.count_cons]
  omega
theorem Sat.drawn [Deep A] {C:Cx A} (h:Sat C.R E st a w):Sat C.R E st a {w with drawn:=w.drawn+1}:=by
 obtain⟨ρ,M,S,h⟩:=h
 refine⟨ρ,M,S,{h with
  mem:=fun b o v hv=>h.mem b o v hv
  objs:=fun n ob hn=>?_}⟩
 have:=h.objs n ob hn
 cases ob with
 | box cs=>exact this
 | row sz es fz=>exact this
 | abs x=>
  obtain⟨b,q1,q2⟩:=this
  exact⟨b,q1,C.R.frame q2 (Mem.le_refl _) (fun _ _ _=>rfl) (fun _ _=>rfl)⟩
 | prow xs=>
  rcases this with⟨b,o,c,ty,cs',bs,Ss,q1,q2⟩|q
  ·exact .inl ⟨b,o,c,ty,cs',bs,Ss,q1,q2.frame (Mem.le_refl _) (fun _ _ _=>rfl) (fun _ _=>rfl)⟩
  ·exact .inr q
structure Found [Deep A] (C:Cx A) (ops:List Oper) (st:St A) (rs:List (Rc A)) (ms:List Nat):Prop where
 trace:Trace C ops ops st rs
 fwd:∀(k:Nat) (o:Oper),ops[k]?=some o→∀e∈o.after.toList,Region.binds .any e=true→e.on<k
 mask:∀(k:Nat) (o:Oper),ops[k]?=some o→∃m,ms[k]?=some m∧m=maskOf (ms.take k) o.after.toList
 ok:∀(i j:Nat) (p q:Rc A) (m:Nat),i<j→rs[i]?=some p→rs[j]?=some q→ms[j]?=some m→confl p.fp q.fp=true→m.testBit i=true
def Closed (ms:List Nat) (d:Nat→Bool):Prop:=∀k m i,d k=true→ms[k]?=some m→m.testBit i=true→d i=true
theorem Found.preds [Deep A] {C:Cx A} {ops:List Oper} {rs:List (Rc A)} {ms:List Nat} (hf:Found C ops st rs ms) {d:Nat→Bool} (hc:Closed ms d) {j:Nat} {o:Oper} (ho:ops[j]?=some o)
  (hr:∀e∈o.after.toList,Region.binds .any e=true→d e.on=true):∀m i,ms[j]?=some m→m.testBit i=true→d i=true:=by
 intro m i hm hi
 obtain⟨m',h1,h2⟩:=hf.mask j o ho
 rw[hm] at h1;cases h1
 rw[h2] at hi
 obtain⟨e,he,hb,h3⟩:=maskOf_spec hi
 have hd:=hr e he hb
 rcases h3 with rfl|h3
 ·exact hd
 ·rw[lget_eq] at h3
  cases hx:(ms.take j)[e.on]? with
  | none=>rw[hx] at h3;simp at h3
  | some mx=>
   rw[hx] at h3
   rw[List.getElem?_take] at hx
   split at hx
   ·exact hc e.on mx i hd hx h3
   ·cases hx
theorem Found.at_ [Deep A] {C:Cx A} {ops:List Oper} {rs:List (Rc A)} {ms:List Nat} (hf:Found C ops st rs ms) {k:Nat} {r:Rc A} (hr:rs[k]?=some r):∃o m,ops[k]?=some o∧ms[k]?=some m∧r.fits:=by
 obtain⟨h1,h2⟩:=hf.trace.get
 have hlt:k<ops.length:=by rw[←h1];exact(List.getElem?_eq_some_iff.1 hr).1
 obtain⟨r',q1,q2⟩:=h2 k ops[k] (List.getElem?_eq_getElem hlt)
 rw[hr] at q1;cases q1
 obtain⟨m,q3,_⟩:=hf.mask k ops[k] (List.getElem?_eq_getElem hlt)
 exact⟨_,m,List.getElem?_eq_getElem hlt,q3,q2.fits⟩
theorem Found.step [Deep A] {C:Cx A} {ops:List Oper} {rs:List (Rc A)} {ms:List Nat} (hf:Found C ops st rs ms) {d d':Nat→Bool} (hc:Closed ms d) {j:Nat} {o:Oper} (ho:ops[j]?=some o)
  (hr:∀e∈o.after.toList,Region.binds .any e=true→d e.on=true) (hj:d j=false) (hd':∀k,d' k=(d k||k==j)) :
  Closed ms d'∧∃r,RcOk C ops (sD d rs 0 st) o r∧r.ap (sD d rs 0 st)=sD d' rs 0 st:=by
 have hp:=hf.preds hc ho hr
 obtain⟨h1,h2⟩:=hf.trace.get
 obtain⟨r,q1,q2⟩:=h2 j o ho
 obtain⟨m,hm,_⟩:=hf.mask j o ho
 have hfits:∀x∈rs,x.fits:=fun x hx=>by
  obtain⟨k,hk⟩:=List.getElem?_of_mem hx
  exact(hf.at_ hk).choose_spec.choose_spec.2.2
 have hlate:∀k rk,j<k→d k=true→rs[k]?=some rk→confl r.fp rk.fp=true→False:=by
  intro k rk hjk hdk hrk hcf
  obtain⟨_,mk,_,hmk,_⟩:=hf.at_ hrk
  have:=hc k mk j hdk hmk (hf.ok j k r rk mk hjk q1 hrk hmk hcf)
  rw[hj] at this;cases this
 refine⟨fun k mk i hk hmk hi=>?_,r,?_,?_⟩
 ·rw[hd'] at hk ⊢
  by_cases e:k=j
  ·subst e;rw[hp mk i hmk hi];rfl
  ·have:d k=true:=by simpa[e] using hk
   rw[hc k mk i this hmk hi];rfl
 ·refine q2.agree fun l hl=>?_
  rw[←sD_take (i:=0),Nat.zero_add]
  refine sD_agree hfits (agree.refl _ _) fun k rk hrk hlk=>?_
  rw[Nat.zero_add]
  rcases Nat.lt_trichotomy k j with hkj|rfl|hkj
  ·rw[decide_eq_true hkj]
   refine(hp m k hm (hf.ok k j rk r m hkj hrk q1 hm ?_)).symm
   unfold confl;rw[meets_of hlk hl];rfl
  ·simp[hj]
  ·rw[decide_eq_false (by omega)]
   cases hdk:d k with
   | false=>rfl
   | true=>
    exfalso
    refine hlate k rk hkj hdk hrk ?_
    unfold confl;rw[meets_of hlk hl];simp
 ·refine St.ext_agree fun l=>?_
  by_cases hl:l∈r.fp.outs
  ·let d0:Nat→Bool:=fun k=>d k&&decide (k<j)
   let d1:Nat→Bool:=fun k=>d0 k||k==j
   have e1:Vm.agree (sD d rs 0 st) (sD d0 rs 0 st) l:=by
    refine sD_agree hfits (agree.refl _ _) fun k rk hrk hlk=>?_
    simp only[Nat.zero_add,d0]
    rcases Nat.lt_trichotomy k j with hkj|rfl|hkj
    ·simp[hkj]
    ·simp[hj]
    ·cases hdk:d k with
     | false=>rfl
     | true=>
      exfalso
      refine hlate k rk hkj hdk hrk ?_
      unfold confl;rw[meets_of hl hlk];simp
   have e2:Vm.agree (sD d' rs 0 st) (sD d1 rs 0 st) l:=by
    refine sD_agree hfits (agree.refl _ _) fun k rk hrk hlk=>?_
    simp only[Nat.zero_add,d0,d1,hd']
    rcases Nat.lt_trichotomy k j with hkj|rfl|hkj
    ·simp[hkj]
    ·simp
    ·have hne:(k==j)=false:=by simpa using(by omega:k≠j)
     rw[hne]
     cases hdk:d k with
     | false=>rfl
     | true=>
      exfalso
      refine hlate k rk hkj hdk hrk ?_
      unfold confl;rw[meets_of hl hlk];simp
   have e3:sD d1 rs 0 st=r.ap (sD d0 rs 0 st):=by
    refine sD_last (Nat.zero_le j) (by simpa using q1) (fun k hk=>?_) (by simp[d1]) (fun k hk=>?_) (fun k hk=>?_)
    ·have:(k==j)=false:=by simpa using(by omega:k≠j)
     simp only[d1,this,Bool.or_false]
    ·simp only[d0];rw[decide_eq_false (by omega)];simp
    ·have:(k==j)=false:=by simpa using(by omega:k≠j)
     simp only[d1,d0,this,Bool.or_false];rw[decide_eq_false (by omega)];simp
   rw[e3] at e2
   exact(r.agree e1).trans e2.symm
  ·refine(Rc.agree_of q2.fits hl).trans ?_
   refine sD_agree hfits (agree.refl _ _) fun k rk hrk hlk=>?_
   simp only[Nat.zero_add,hd']
   by_cases e:k=j
   ·subst e
    rw[hrk] at q1;cases q1
    exact absurd hlk hl
   ·have:(k==j)=false:=by simpa using e
    rw[this,Bool.or_false]
theorem any_sound [Deep A] {C:Cx A} (hE:EOk C E) {ops:Array Oper} {rs:List (Rc A)} {ms:List Nat} (hf:Found C ops.toList st rs ms) {Q:Exit→Act→World→Prop}
  (hQ:∀a w,Sat C.R E (rs.foldl (fun s r=>r.ap s) st) a w→Q .normal a w):∀(fuel:Nat) (listed:Array Bool) (a:Act) (w:World),listed.size=ops.size→listed.toList.count false≤fuel→
   Closed ms (fun k=>listed.getD k false)→Sat C.R E (sD (fun k=>listed.getD k false) rs 0 st) a w→wpAny C.P .any ops Q fuel listed a w:=by
 have hdone:∀(listed:Array Bool) (a:Act) (w:World),listed.size=ops.size→Region.ready .any ops listed=[]→Sat C.R E (sD (fun k=>listed.getD k false) rs 0 st) a w→Q .normal a w:=by
  intro listed a w hsz hr hs
  have hall:∀k,k<ops.size→listed.getD k false=true:=by
   intro k
   induction k using Nat.strongRecOn with
   | ind k ih=>
    intro hk
    cases hl:listed.getD k false with
    | true=>rfl
    | false=>
     exfalso
     have hmem:k∈Region.ready .any ops listed:=by
      rw[mem_ready]
      have hks:k<listed.size:=by omega
      refine⟨by simpa[hks] using hl,ops[k],Array.getElem?_eq_getElem hk,fun e he hb=>?_⟩
      have:=hf.fwd k ops[k] (by simp[hk]) e (by simpa using he) hb
      exact ih e.on this (by omega)
     rw[hr] at hmem;cases hmem
  refine hQ a w ?_
  have hlen:rs.length=ops.size:=by rw[hf.trace.get.1];simp
  have:sD (fun k=>listed.getD k false) rs 0 st=rs.foldl (fun s r=>r.ap s) st:=by
   have h1:sD (fun m=>decide (m<0+rs.length)) rs 0 st=rs.foldl (fun s r=>r.ap s) st:=by rw[sD_take,List.take_length]
   rw[←h1]
   refine St.ext_agree fun l=>?_
   refine sD_agree (fun x hx=>?_) (agree.refl _ _) fun k rk hrk _=>?_
   ·obtain⟨k,hk⟩:=List.getElem?_of_mem hx
    exact(hf.at_ hk).choose_spec.choose_spec.2.2
   ·have hlt:k<rs.length:=(List.getElem?_eq_some_iff.1 hrk).1
    simp only[Nat.zero_add]
    rw[hall k (by omega),decide_eq_true hlt]
  rw[←this];exact hs
 intro fuel
 induction fuel with
 | zero=>
  intro listed a w hsz hc _ hs
  have hr:Region.ready .any ops listed=[]:=by
   cases hr:Region.ready .any ops listed with
   | nil=>rfl
   | cons i r=>
    exfalso
    have hi:i∈Region.ready .any ops listed:=by rw[hr];simp
    obtain⟨h0,_⟩:=mem_ready.1 hi
    have hlt:i<listed.size:=by
     rcases Nat.lt_or_ge i listed.size with h|h
     ·exact h
     ·simp[Array.getElem?_eq_none h] at h0
    have hm:false∈listed.toList:=by
     have:listed[i]=false:=by simpa[hlt] using h0
     rw[←this];simp
    have:=List.count_pos_iff.2 hm
    omega
  exact⟨hr,hdone listed a w hsz hr hs⟩
 | succ fuel ih=>
  intro listed a w hsz hc hcl hs
  refine⟨fun hr=>hdone listed a w hsz hr hs,fun i hi=>?_⟩
  obtain⟨h0,o,ho,hall⟩:=mem_ready.1 hi
  have hlt:i<listed.size:=by
   rcases Nat.lt_or_ge i listed.size with h|h
   ·exact h
   ·simp[Array.getElem?_eq_none h] at h0
  have hi0:listed[i]=false:=by simpa[hlt] using h0
  have hd':∀k,(listed.setIfInBounds i true).getD k false=(listed.getD k false||k==i):=by
   intro k
   by_cases e:i=k
   ·subst e;simp[hlt]
   ·rw[getD_set_ne false e]
    have:(k==i)=false:=by simpa using fun h=>e h.symm
    rw[this,Bool.or_false]
  obtain⟨hcl',r,hrc,hap⟩:=hf.step hcl (by simpa using ho:ops.toList[i]?=some o) (fun e he hb=>hall e (by simpa using he) hb) (by simp[hlt,hi0]) hd'
  unfold wpOp
  rw[ho]
  simp only
  have key:=hrc.go hE hs (next:=wpAny C.P .any ops Q fuel (listed.setIfInBounds i true)) (Q:=Q) fun a' w' hs'=>by
   refine ih _ a' w' (by simpa using hsz) ?_ hcl' (by rw[←hap];exact hs')
   have:=count_set (l:=listed.toList) (i:=i) (by simp[hlt,hi0])
   rw[Array.toList_setIfInBounds]
   omega
  simp only[Array.toArray_toList] at key
  split
  ·rename_i hw;rw[if_pos hw] at key;exact .inl key
  ·rename_i hw;rw[if_neg hw] at key;exact key
theorem VWp.regionDraw [Deep A] {C:Cx A} (hE:EOk C E) (hm:C.P.follows .mixedOrders=true) {id:Nat} {ops:Array Oper} {K:Exit→St A→Prop} (h:vregs C ops.toList ops.toList st [] fun st fps=>indep ops.toList fps=true∧K .normal st) :
  VWp C E (.region id ops true) st K:=by
 obtain⟨rs,ht,hi,hk⟩:=vregs_trace h
 intro a w hs
 refine wp_region_any hm ?_
 unfold indep at hi
 simp only[List.append_nil,List.reverse_reverse,Bool.and_eq_true] at hi
 obtain⟨hfw,hok⟩:=hi
 obtain⟨⟨new,hn1,hn2⟩,hms⟩:=masks_spec (l:=ops.toList) (acc:=[])
 have hf:Found C ops.toList st rs (masks ops.toList []):={
  trace:=ht
  fwd:=fun k o ho e he hb=>by have:=fwd_spec hfw k o ho e he hb;omega
  mask:=fun k o ho=>by simpa using hms k o ho
  ok:=fun i j p q m hij hp hq hm' hc=>by
   refine okAll_spec hok j m q.fp hm' (by simp[hq]) i p.fp ?_ hc
   rw[List.nil_append,List.getElem?_take,if_pos hij]
   simp[hp]}
 refine any_sound hE hf (fun a' w' hs'=>⟨.inl rfl,_,hk,hs'⟩) ops.size _ a _ (by simp) ?_ (fun k m i hk'=>?_) ?_
 ·simp
 ·exfalso
  by_cases hkl:k<ops.size<;>simp[hkl] at hk'
 ·have:sD (fun k=>(Array.replicate ops.size false).getD k false) rs 0 st=st:=by
   refine sD_none fun k _=>?_
   by_cases hkl:k<ops.size<;>simp[hkl]
  rw[this]
  exact hs.drawn
end Go.Vm
